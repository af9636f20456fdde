/- Contracts of functions. No condition. -/
import Derived.Test.YtdakkaapokhnnaaGreatDoorChecked
import Derived.WalkKit
import Derived.Lib.Hide
import Derived.Deep.Quiet
import Derived.StillTail
import Derived.ProofKit
import Derived.OpenShut
import Derived.SizedLaws
import Derived.Deep.Upon
import Derived.Lib.QuietBelow
import Derived.BigQuiet
namespace Go.Proofs.YtdakkaapokhnnaaGreatDoor
open Go.RowKit Go.Proofs.Tryz
set_option maxRecDepth 100000
set_option maxHeartbeats 6400000
set_option linter.all false
theorem HD{p:Prop}(h:p):RowKit.Hid p:=h
theorem RF{α:Sort _}{a b:α}(h:a=b:=by with_unfolding_all rfl):a=b:=h
theorem OM{p:Prop}(h:p:=by omega):p:=h
theorem KF{α:Sort _}{a b:α}(h:a=b:=by kernel_rfl):a=b:=h
theorem SI{p:Prop}(h:p:=by simp):p:=h
theorem DC{p:Prop}(h:p:=by decide):p:=h
theorem NM{p:Prop}(h:p:=by(repeat(rw[ag]))<;>omega):p:=h
theorem LM{p:Prop}(h:p:=by(repeat(rw[List.length_set]))<;>omega):p:=h
theorem UM{p:Prop}(h:p:=by(repeat(rw[az]))<;>omega):p:=h
theorem MX{p:Prop}(h:p:=by simp only[maxLen];omega):p:=h
theorem SB{α:Type _}{l l':List α}(h:l.Sublist l':=by((try simp only[List.eraseIdx_cons_succ,List.eraseIdx_cons_zero]);repeat(first|exact List.Sublist.slnil|with_reducible apply List.Sublist.cons_cons|apply List.Sublist.cons))):l.Sublist l':=h
theorem MM{p:Prop}(h:p:=by first|with_reducible exact aC|with_reducible exact aM|with_reducible exact a_|with_reducible exact nz|with_reducible exact mm4|with_reducible exact mm5|with_reducible exact mm6|with_reducible exact mm7|with_reducible exact mm8|with_reducible exact mm9):p:=h
theorem UU{p:Prop}(h:p:=by first|with_reducible exact jR|with_reducible exact jo|with_reducible exact qN|with_reducible exact WQ|with_reducible exact uu4|with_reducible exact uu5|with_reducible exact uu6|with_reducible exact uu7|with_reducible exact uu8|with_reducible exact uu9):p:=h
theorem LN{p:Prop}(h:p:=by(first|omega| (simp only[List.length_set,ag,az,aY,ay,bf,aF,opI,qB,List.length_append,List.length_cons,List.length_nil]<;>omega))):p:=h
theorem QN:(∀(a:Act) (v:Value),a.put none v=a)∧(∀(a:Act) (i:Nat) (v:Value),a.put (some i) v={a with tmps:=a.tmps.setIfInBounds i v})∧(∀(l:List Value) (i:Nat) (v:Value),l.toArray.setIfInBounds i v=(l.set i v).toArray)∧(∀(x y:Value) (l:List Value) (n:Nat),(x::l).set (n+1) y=x::l.set n y)∧(∀(x y:Value) (l:List Value),(x::l).set 0 y=y::l):=⟨λ_ _=>rfl,λ_ _ _=>rfl,λ_ _ _=>List.setIfInBounds_toArray ..,λ_ _ _ _=>rfl,λ_ _ _=>rfl⟩
theorem QS:(∀(x y:Value) (l:List Value),(x::l).set 0 y=y::l)∧(∀(x y:Value) (l:List Value) (n:Nat),(x::l).set (n+1) y=x::l.set n y):=⟨λ_ _ _=>rfl,λ_ _ _ _=>rfl⟩
theorem QG{α:Type _}:(∀(l:List α) (i:Nat) (h:i<l.toArray.size),l.toArray[i]'h=l[i]'h)∧(∀(x:α) (l:List α) (i:Nat) (h:i+1< (x::l).length),(x::l)[i+1]'h=l[i]'(Nat.lt_of_succ_lt_succ h))∧(∀(x:α) (l:List α) (h:0< (x::l).length),(x::l)[0]'h=x):=⟨λ_ _ _=>rfl,λ_ _ _ _=>rfl,λ_ _ _=>rfl⟩
theorem LB{p:Prop}(h:p:=by first|assumption|omega| (simp only[List.length_set,ag,az,aY,ay,bf,aF,opI,qB,List.length_append,List.length_cons,List.length_nil];omega)):p:=h
theorem LA{p:Prop}(h:p:=by first|with_unfolding_all rfl|assumption|omega| (simp only[List.length_set,ag,az,aY,ay,bf,aF,opI,qB,List.length_append,List.length_cons,List.length_nil]<;>omega)):p:=h
theorem IS{p:Prop}(h:p:=by first|with_unfolding_all exact kU.i _|with_unfolding_all exact kU.a _):p:=h
theorem WD{p:Prop}(h:p:=by with_unfolding_all decide):p:=h
theorem EQ{α:Type _}(a:α):∃x,a=x:=⟨_,rfl⟩
theorem EZ{α:Type _}(a:α):∃x,x=a:=⟨_,rfl⟩
theorem EH{α:Type _}(a:α):∃x,Hid (a=x):=⟨_,HD rfl⟩structure bT where
 own:List Nat
 sat:World->Prop
 loc:∀w w':World,(∀k∈own,w'.heap[k]? =w.heap[k]?)->sat w->sat w'
def blk(b:Nat)(e:TypeId)(cs:List Value):bT:=
 ⟨[b],λw=>w.heap[b]? =some (.cells cs.toArray e (0,0)),λw w' h hs=>by rw[h b SI];exact hs⟩
def owned(m:List bT):List Nat:=m.flatMap bT.own
structure Inv (T:List Nat) (w0 w:World) (m:List bT):Prop where
 os:w.os=w0.os
 tape:w.tape=w0.tape
 output:w.output=w0.output
 size:w0.heap.size<=w.heap.size
 old:∀k,k<w0.heap.size->k∉T->w.heap[k]? =w0.heap[k]?
 sat:∀r∈m,r.sat w
 mine:∀k∈owned m,(w0.heap.size<=k∨k∈T)∧k<w.heap.size
 apart:(owned m).Nodup
structure Step (S:List Nat) (w w':World):Prop where
 os:w'.os=w.os
 tape:w'.tape=w.tape
 output:w'.output=w.output
 size:w.heap.size<=w'.heap.size
 same:∀k,k<w.heap.size->k∉S->w'.heap[k]? =w.heap[k]?
theorem Step.refl(S w):Step S w w:=⟨rfl,rfl,rfl,Nat.le_refl _,λ_ _ _=>rfl⟩
theorem Step.drew(S w):Step S w w.drew:=⟨rfl,rfl,rfl,Nat.le_refl _,λ_ _ _=>rfl⟩
theorem Step.of_below{w w'}(h:Below w.heap.size w w'):Step [] w w':=⟨h.os,h.tape,h.output,h.size,λk hk _=>h.block k hk⟩
theorem Step.below{w w'}(h:Step [] w w'):Below w.heap.size w w':=⟨h.os,h.tape,h.output,h.size,λk hk=>h.same k hk SI⟩
theorem Step.trans{S a b c}(h:Step S a b)(k:Step S b c):Step S a c:=
 ⟨k.os.trans h.os,k.tape.trans h.tape,k.output.trans h.output,Nat.le_trans h.size k.size,λi hi hn=>(k.same i (Nat.lt_of_lt_of_le hi h.size) hn).trans (h.same i hi hn)⟩
theorem Step.mono{S S' a b}(h:Step S a b)(hs:∀k∈S,k∈S'):Step S' a b:=
 ⟨h.os,h.tape,h.output,h.size,λk hk hn=>h.same k hk (λhh=>hn (hs k hh))⟩
def aU(r r':bT):List bT->List bT->Prop
 | [],_=>False
 |x::m,m'=>(x=r∧m'=r'::m)∨∃m'',aU r r' m m''∧m'=x::m''
theorem aU.here{r r' m}:aU r r' (r::m) (r'::m):=.inl ⟨rfl,rfl⟩
theorem aU.there{r r' x m m'}(h:aU r r' m m'):aU r r' (x::m) (x::m'):=.inr ⟨_,h,rfl⟩
theorem aU.split{r r'}:∀ {m m'},aU r r' m m'->∃m1 m2,m=m1++r::m2∧m'=m1++r'::m2
 | [],_,h=>h.elim
 |x::m,m',h=>by
  rcases h with⟨rfl,rfl⟩ | ⟨m'',h,rfl⟩
  ·exact⟨[],m,rfl,rfl⟩
  ·obtain⟨m1,m2,rfl,rfl⟩:=aU.split h
   grind
theorem fT{m k}:k∈owned m↔∃r∈m,k∈r.own:=by simp[owned]
theorem iR(a b):owned (a++b)=owned a++owned b:=by simp[owned]
theorem fe(r b):owned (r::b)=r.own++owned b:=by simp[owned]
section
variable {T:List Nat}{w0 w w':World}{m m':List bT}{r r':bT}
theorem Inv.start(w):Inv [] w w []:=⟨rfl,rfl,rfl,Nat.le_refl _,λ_ _ _=>rfl,by simp,by simp[owned],by simp[owned]⟩
theorem Inv.upd(h:Inv T w0 w m)(hu:aU r r' m m')(hs:Step r.own w w')(hr:r'.sat w')(ho:∀k∈r'.own,k∈r.own∨(w.heap.size<=k∧k<w'.heap.size))(hn:r'.own.Nodup):Inv T w0 w' m':=by
 obtain⟨m1,m2,rfl,rfl⟩:=hu.split;have hap:=h.apart;have zJ:=h.mine;simp only[iR,fe]at hap zJ;rw[List.nodup_append,List.nodup_append]at hap;obtain⟨h1,⟨h2,h3,h4⟩,h5⟩:=hap;refine⟨hs.os.trans h.os,hs.tape.trans h.tape,hs.output.trans h.output,Nat.le_trans h.size hs.size,λk hk Um=>?_,λx hx=>?_,λk hk=>?_,?_⟩
 ·grind[Step.same,Inv.old]
 ·have keep:∀y∈m1++m2,y.sat w':=by
   intro y hy;refine y.loc w w' (λk hk=>hs.same k ?_ ?_) (h.sat y (by grind))
   ·refine(zJ k ?_).2
    grind[fT]
   ·intro hkr
    rcases List.mem_append.1 hy with hy|hy
    ·exact h5 k (fT.2 ⟨y,hy,hk⟩) k (List.mem_append.2 (.inl hkr)) rfl
    grind[fT]
  grind
 ·grind[iR,fe,Step.size,Nat.le_trans,Inv.size]
 ·simp only[iR,fe]
  rw[List.nodup_append,List.nodup_append];have new:∀k∈r'.own,k∉r.own->∀j,j<w.heap.size->k≠j:=λk hk hkn j hj=>by
   grind
  refine⟨h1,⟨hn,h3,λk hk j hj=>?_⟩,λk hk j hj=>?_⟩
  ·by_cases hkr:k∈r.own
   all_goals simp_all
  ·rcases List.mem_append.1 hj with hj|hj
   ·by_cases hjr:j∈r.own
    ·grind
    ·exact(new j hj hjr k (zJ k (by simp[hk])).2).symm
   grind
theorem Inv.new(h:Inv T w0 w m)(hs:Step [] w w')(hr:r'.sat w')(ho:∀k∈r'.own,w.heap.size<=k∧k<w'.heap.size)(hn:r'.own.Nodup):Inv T w0 w' (r'::m):=by
 refine⟨hs.os.trans h.os,hs.tape.trans h.tape,hs.output.trans h.output,Nat.le_trans h.size hs.size,λk hk Um=>(hs.same k (Nat.lt_of_lt_of_le hk h.size) SI).trans (h.old k hk Um),λx hx=>?_,λk hk=>?_,?_⟩
 ·rcases List.mem_cons.1 hx with rfl|hx
  ·exact hr
  ·exact x.loc w w' (λk hk=>hs.same k (h.mine k (fT.2 ⟨x,hx,hk⟩)).2 SI) (h.sat x hx)
 ·grind[fe,Nat.le_trans,Inv.size,Inv.mine,Step.size]
 ·rw[fe,List.nodup_append]
  refine⟨hn,h.apart,λk hk j hj=>?_⟩;have h1:=ho k hk;have h2:=(h.mine j hj).2;omega
theorem Inv.step(h:Inv T w0 w m)(hs:Step [] w w'):Inv T w0 w' m:=by
 refine⟨hs.os.trans h.os,hs.tape.trans h.tape,hs.output.trans h.output,Nat.le_trans h.size hs.size,λk hk Um=>(hs.same k (Nat.lt_of_lt_of_le hk h.size) SI).trans (h.old k hk Um),λx hx=>?_,λk hk=>?_,h.apart⟩
 ·exact x.loc w w' (λk hk=>hs.same k (h.mine k (fT.2 ⟨x,hx,hk⟩)).2 SI) (h.sat x hx)
 ·have:=h.mine k hk;exact⟨this.1,Nat.lt_of_lt_of_le this.2 hs.size⟩
theorem Inv.call(h:Inv T w0 w m)(hb:Below w.heap.size w w'):Inv T w0 w' m:=h.step (.of_below hb)
theorem Inv.drew(h:Inv T w0 w m):Inv T w0 w.drew m:=h.step (.drew _ _)
theorem Un:∀ {m' m},m'.Sublist m->(owned m').Sublist (owned m):=by
 intro m' m hs;unfold owned
 induction hs with
 |slnil=>grind
 |cons a _ ih=>grind
 |cons_cons a _ ih=>grind
theorem Inv.sub(h:Inv T w0 w m)(hs:m'.Sublist m):Inv T w0 w m':=by
 have ho:=Un hs;exact⟨h.os,h.tape,h.output,h.size,h.old,λr hr=>h.sat r (hs.subset hr),λk hk=>h.mine k (ho.subset hk),h.apart.sublist ho⟩
theorem Inv.below(h:Inv [] w0 w m):Below w0.heap.size w0 w:=⟨h.os,h.tape,h.output,h.size,λk hk=>h.old k hk SI⟩
theorem Inv.end_(h:Inv T w0 w m):Step T w0 w:=⟨h.os,h.tape,h.output,h.size,λk hk hn=>h.old k hk hn⟩
theorem Inv.cell(h:Inv [] w0 w m){p v}(hc:w0.cell? p=some v):w.cell? p=some v:=(h.below.cell (World.block_lt_of_cell? _ _ hc)).trans hc
theorem Inv.take{b e cs}(hb:w.heap[b]? =some (.cells cs.toArray e (0,0))):Inv [b] w w [blk b e cs]:=by
 refine⟨rfl,rfl,rfl,Nat.le_refl _,λ_ _ _=>rfl,?_,?_,by simp[owned,blk]⟩
 all_goals grind[owned,blk]
theorem Inv.blk{b e cs}(h:Inv T w0 w m)(hm:blk b e cs∈m):w.heap[b]? =some (.cells cs.toArray e (0,0)):=h.sat _ hm
end
section
variable {P:Program}{w:World}{b:Nat}{e:TypeId}{cs:List Value}{fr:Nat×Nat}
theorem qd(hb:w.heap[b]? =some (.cells cs.toArray e fr))(i):w.cell? ⟨b,i,none⟩=cs[i]? :=by
 simp[World.cell?,hb]
theorem kP(b off i):(⟨b,off,none⟩:Addr).add i=⟨b,off+i,none⟩:=by
 unfold Addr.add;grind
theorem zK(hb:w.heap[b]? =some (.cells cs.toArray e fr))(off):∀n i acc,off+i+n<=cs.length->
  (loadCellsFrom ⟨b,off,none⟩ i n acc).run P w=.ok (acc++((cs.drop (off+i)).take n).toArray) w
 |0,i,acc,_=>by simp[loadCellsFrom]
 |n+1,i,acc,h=>by
  have hi:off+i<cs.length:=by omega
  have hc:w.cell? ⟨b,off+i,none⟩=some cs[off+i]:=by rw[qd hb];simp[hi]
  rw[loadCellsFrom,Sem.run_bind];have hl:(load ((⟨b,off,none⟩:Addr).add i)).run P w=.ok cs[off+i] w:=by
   simp_all[kP]
  rw[hl,Result.andThen_ok,zK hb off n (i+1) _ OM]
  simp_all[List.drop_eq_getElem_cons,Nat.add_assoc]
theorem run_loadCells(hb:w.heap[b]? =some (.cells cs.toArray e fr))(off n)(h:off+n<=cs.length):
  (loadCells ⟨b,off,none⟩ n).run P w=.ok ((cs.drop off).take n).toArray w:=by
 rw[loadCells,zK hb off n 0 #[] OM];simp
def gm(P:Program)(t:TypeId)(n:Nat):Prop:=(match P.underlying t with|some (.struct _) |some (.array _ _)=>true|_=>false)=true∧(P.info? t).map (·.size)=some n
def iY(P:Program)(t:TypeId):Prop:=(match P.underlying t with|some (.struct _) |some (.array _ _) |none=>true|_=>false)=false∧(P.info? t).map (·.size)=some 1
theorem gm.isAgg{t n}(h:gm P t n)(w):(isAgg t).run P w=.ok true w:=by
 obtain⟨h1,_⟩:=h;unfold Go.isAgg;cases hu:P.underlying t with
 |none=>grind
 |some d=>rw[Sem.run_bind,run_underlying hu w];cases d<;>simp_all
theorem iY.isAgg{t}(h:iY P t)(w):(isAgg t).run P w=.ok false w:=by
 obtain⟨h1,_⟩:=h;unfold Go.isAgg;cases hu:P.underlying t with
 |none=>grind
 |some d=>rw[Sem.run_bind,run_underlying hu w];cases d<;>simp_all
theorem gm.size{t n}(h:gm P t n):(P.info? t).map (·.size)=some n:=h.2
theorem iY.size{t}(h:iY P t):(P.info? t).map (·.size)=some 1:=h.2
theorem dX{t n}(h:(P.info? t).map (·.size)=some n)(w):(sizeOf t).run P w=.ok n w:=by
 obtain⟨i,hi,rfl⟩:=Option.map_eq_some_iff.1 h;simp[sizeOf,typeInfo,hi]
theorem iT{t n}(hT:gm P t n)(hb:w.heap[b]? =some (.cells cs.toArray e fr))(off)(h:off+n<=cs.length):
  (loadVar t ⟨b,off,none⟩).run P w=.ok (.agg ((cs.drop off).take n).toArray) w:=by
 rw[loadVar,Sem.run_bind,hT.isAgg,Result.andThen_ok];simp only[if_true];rw[Sem.run_bind,dX hT.2,Result.andThen_ok,Sem.run_bind,run_loadCells hb off n h,Result.andThen_ok];rfl
theorem ik{t v}(hT:iY P t)(hb:w.heap[b]? =some (.cells cs.toArray e fr))(off)(h:cs[off]? =some v):
  (loadVar t ⟨b,off,none⟩).run P w=.ok v w:=by
 rw[loadVar,Sem.run_bind,hT.isAgg,Result.andThen_ok];simp only[Bool.false_eq_true,if_false];rw[load,Sem.run,qd hb,h];rfl
def splice(cs:List Value)(off:Nat)(vs:List Value):List Value:=cs.take off++vs++cs.drop (off+vs.length)
theorem BO(cs off v vs)(h:off<cs.length):splice (cs.set off v) (off+1) vs=splice cs off (v::vs):=by
 unfold splice;rw[List.take_succ_eq_append_getElem (by grind)];rw[List.take_set_of_le (Nat.le_refl _),List.drop_set_of_lt OM]
 grind
theorem rf(vs)(h1:∀u∈vs,u.oneCell'=true):∀w cs off i,w.heap[b]? =some (.cells cs.toArray e (0,0))->off+i+vs.length<=cs.length->
  ∃w',(storeCells ⟨b,off,none⟩ vs i).run P w=.ok () w'∧Step [b] w w'∧w'.heap.size=w.heap.size∧w'.heap[b]? =some (.cells (splice cs (off+i) vs).toArray e (0,0)):=by
 induction vs with
 |nil=>intro w cs off i hb _;exact⟨w,by simp[storeCells],.refl _ _,rfl,by simp_all[splice]⟩
 |cons v vs ih=>
  intro w cs off i hb hl;simp only[List.length_cons]at hl;have hi:off+i<cs.length:=by omega
  have hone:=h1 v SI;have hc:w.cell? ⟨b,off+i,none⟩=some cs[off+i]:=by rw[qd hb];simp[hi]
  have hfz:w.frozen? ⟨b,off+i,none⟩=false:=by simp[World.frozen?,hb]
  have hb':(w.setCell ⟨b,off+i,none⟩ v).heap[b]? =some (.cells (cs.set (off+i) v).toArray e (0,0)):=by
   simp[World.setCell,Array.getElem?_modify,hb]
  obtain⟨w',hr,hs,hsz,hh⟩:=ih (λu hu=>h1 u (by simp[hu])) (w.setCell ⟨b,off+i,none⟩ v) (cs.set (off+i) v) off (i+1) hb' (by grind);have hst:Step [b] w (w.setCell ⟨b,off+i,none⟩ v):=⟨rfl,rfl,rfl,by simp_all,λk _ hk=>by
   simp only[World.setCell,Array.getElem?_modify]
   grind⟩
  refine⟨w',?_,hst.trans hs,by simp_all,?_⟩
  ·rw[storeCells,Sem.run_bind]
   have WX:(store ((⟨b,off,none⟩:Addr).add i) v).run P w=.ok () (w.setCell ⟨b,off+i,none⟩ v):=by
    rw[kP,store];cases v<;>first| (simp[Value.oneCell']at hone;done) | (simp[Sem.run,hc,hfz])
   simp_all
  grind[BO]
theorem uT{t n:Nat}{v}(hn:(P.info? t).map (·.size)=some n)(vs)(hv:v.cells=vs.toArray)(hl:vs.length=n)(h1:∀u∈vs,u.oneCell'=true)(hb:w.heap[b]? =some (.cells cs.toArray e (0,0)))(off)(hoff:off+n<=cs.length):
  ∃w',(storeVar t ⟨b,off,none⟩ v).run P w=.ok () w'∧Step [b] w w'∧w'.heap.size=w.heap.size∧w'.heap[b]? =some (.cells (splice cs off vs).toArray e (0,0)):=by
 obtain⟨w',hr,hs,hsz,hh⟩:=rf (P:=P) vs h1 w cs off 0 hb OM;rw[storeVar,Sem.run_bind,dX hn,Result.andThen_ok,hv]
 grind
end
section
variable {α:Type _}
theorem aC{x:α}{l}:x∈x::l:=by grind
theorem aM{x a0:α}{l}:x∈a0::x::l:=by grind
theorem a_{x a0 a1:α}{l}:x∈a0::a1::x::l:=by grind
theorem nz{x a0 a1 a2:α}{l}:x∈a0::a1::a2::x::l:=by grind
theorem mm4{x a0 a1 a2 a3:α}{l}:x∈a0::a1::a2::a3::x::l:=by grind
theorem mm5{x a0 a1 a2 a3 a4:α}{l}:x∈a0::a1::a2::a3::a4::x::l:=by simp_all
theorem mm6{x a0 a1 a2 a3 a4 a5:α}{l}:x∈a0::a1::a2::a3::a4::a5::x::l:=by simp_all
theorem mm7{x a0 a1 a2 a3 a4 a5 a6:α}{l}:x∈a0::a1::a2::a3::a4::a5::a6::x::l:=by simp_all
theorem mm8{x a0 a1 a2 a3 a4 a5 a6 a7:α}{l}:x∈a0::a1::a2::a3::a4::a5::a6::a7::x::l:=by simp_all
theorem mm9{x a0 a1 a2 a3 a4 a5 a6 a7 a8:α}{l}:x∈a0::a1::a2::a3::a4::a5::a6::a7::a8::x::l:=by simp_all
end
theorem jR{r r' l}:aU r r' (r::l) (r'::l):=aU.here
theorem jo{r r' a0 l}:aU r r' (a0::r::l) (a0::r'::l):=aU.there (aU.here)
theorem qN{r r' a0 a1 l}:aU r r' (a0::a1::r::l) (a0::a1::r'::l):=aU.there (aU.there (aU.here))
theorem WQ{r r' a0 a1 a2 l}:aU r r' (a0::a1::a2::r::l) (a0::a1::a2::r'::l):=aU.there (aU.there (aU.there (aU.here)))
theorem uu4{r r' a0 a1 a2 a3 l}:aU r r' (a0::a1::a2::a3::r::l) (a0::a1::a2::a3::r'::l):=aU.there (aU.there (aU.there (aU.there (aU.here))))
theorem uu5{r r' a0 a1 a2 a3 a4 l}:aU r r' (a0::a1::a2::a3::a4::r::l) (a0::a1::a2::a3::a4::r'::l):=aU.there (aU.there (aU.there (aU.there (aU.there (aU.here)))))
theorem uu6{r r' a0 a1 a2 a3 a4 a5 l}:aU r r' (a0::a1::a2::a3::a4::a5::r::l) (a0::a1::a2::a3::a4::a5::r'::l):=aU.there (aU.there (aU.there (aU.there (aU.there (aU.there (aU.here))))))
theorem uu7{r r' a0 a1 a2 a3 a4 a5 a6 l}:aU r r' (a0::a1::a2::a3::a4::a5::a6::r::l) (a0::a1::a2::a3::a4::a5::a6::r'::l):=aU.there (aU.there (aU.there (aU.there (aU.there (aU.there (aU.there (aU.here)))))))
theorem uu8{r r' a0 a1 a2 a3 a4 a5 a6 a7 l}:aU r r' (a0::a1::a2::a3::a4::a5::a6::a7::r::l) (a0::a1::a2::a3::a4::a5::a6::a7::r'::l):=aU.there (aU.there (aU.there (aU.there (aU.there (aU.there (aU.there (aU.there (aU.here))))))))
theorem uu9{r r' a0 a1 a2 a3 a4 a5 a6 a7 a8 l}:aU r r' (a0::a1::a2::a3::a4::a5::a6::a7::a8::r::l) (a0::a1::a2::a3::a4::a5::a6::a7::a8::r'::l):=aU.there (aU.there (aU.there (aU.there (aU.there (aU.there (aU.there (aU.there (aU.there (aU.here)))))))))
section
variable {P:Program}{ops:Array Oper}{Q:Exit->Act->World->Prop}{a:Act}{rest:List Oper}{T:List Nat}{w0 w:World}{m m':List bT}{dst:Option Tmp}{ty:TypeId}{pos:String}{af:Array Edge}
def gu(P:Program)(o:Oper)(a:Act)(w:World)(v:Value):Prop:=(execOp a.eval o).run P w=.ok (.value v) w
theorem av{op v}(h:gu P ⟨dst,op,ty,pos,af,none⟩ a w v)(k:wpList P ops Q rest (a.put dst v) w):wpList P ops Q (⟨dst,op,ty,pos,af,none⟩::rest) a w:=
 wpList_plain rfl λK hK=>by
  unfold Oper.wp;rw[h];exact hK _ _ k
theorem Uo{op j want}(h:yielded ops a.tmps j=some want)(k:wpList P ops Q (⟨dst,op,ty,pos,af,none⟩::rest) a w):wpList P ops Q (⟨dst,op,ty,pos,af,some (j,want)⟩::rest) a w:=by
 unfold wpList at k|-;rw[if_pos (by simp[Region.wanted,h])];exact k
theorem zL{x}{t n b off:Nat}{e cs g}(hI:Inv T w0 w m)(hx:a.eval x=.pointer (some ⟨b,off,none⟩))(hm:blk b e cs∈m)(hT:gm P t n)(hl:off+n<=cs.length):
  gu P ⟨dst,.load t x,ty,pos,af,g⟩ a w (.agg ((cs.drop off).take n).toArray):=by
 unfold gu execOp;simp only[hx,Instr.loadAt,Instr.sureAddr,Sem.run_bind,Sem.run_pure,Result.andThen_ok,iT hT (hI.blk hm) off hl]
theorem uU{x}{t b off:Nat}{e cs v g}(hI:Inv T w0 w m)(hx:a.eval x=.pointer (some ⟨b,off,none⟩))(hm:blk b e cs∈m)(hT:iY P t)(hv:cs[off]? =some v):
  gu P ⟨dst,.load t x,ty,pos,af,g⟩ a w v:=by
 unfold gu execOp;simp only[hx,Instr.loadAt,Instr.sureAddr,Sem.run_bind,Sem.run_pure,Result.andThen_ok,ik hT (hI.blk hm) off hv]
theorem dh{x}{t n b off:Nat}{e cs}(hI:Inv T w0 w m)(hx:a.eval x=.pointer (some ⟨b,off,none⟩))(hm:blk b e cs∈m)(hT:gm P t n)(hl:off+n<=cs.length)(k:wpList P ops Q rest (a.put dst (.agg ((cs.drop off).take n).toArray)) w):wpList P ops Q (⟨dst,.load t x,ty,pos,af,none⟩::rest) a w:=av (zL hI hx hm hT hl) k
theorem aW{x}{t b off:Nat}{e cs v}(hI:Inv T w0 w m)(hx:a.eval x=.pointer (some ⟨b,off,none⟩))(hm:blk b e cs∈m)(hT:iY P t)(hv:cs[off]? =some v)(k:wpList P ops Q rest (a.put dst v) w):wpList P ops Q (⟨dst,.load t x,ty,pos,af,none⟩::rest) a w:=av (uU hI hx hm hT hv) k
theorem bX{x t cs}(hI:Inv T w0 w m)(hcs:(a.eval x).cells=cs.toArray)(k:∀b w',Inv T w0 w' (blk b t cs::m)->wpList P ops Q rest (a.put dst (.pointer (some ⟨b,0,none⟩))) w'):wpList P ops Q (⟨dst,.box t x,ty,pos,af,none⟩::rest) a w:=
 wpList_plain rfl λK hK=>by
  unfold Oper.wp execOp;simp only[Instr.box,newVar,newRow,newObj,hcs,Sem.run_bind,Sem.run_pure];refine hK _ _ (k w.heap.size {w with heap:=w.heap.push (.cells cs.toArray t)} ?_);exact hI.new ⟨rfl,rfl,rfl,by simp,λk hk _=>by grind⟩ (by show(w.heap.push _)[w.heap.size]? =_;simp) (by simp[blk]) (by simp[blk])
theorem aN{t z cs}(hI:Inv T w0 w m)(hz:(P.info? t).map (·.zero)=some (some z))(hcs:z.cells=cs.toArray)(k:∀b w',Inv T w0 w' (blk b t cs::m)->wpList P ops Q rest (a.put dst (.pointer (some ⟨b,0,none⟩))) w'):wpList P ops Q (⟨dst,.alloc t,ty,pos,af,none⟩::rest) a w:=
 wpList_plain rfl λK hK=>by
  obtain⟨i,hi,hz'⟩:=Option.map_eq_some_iff.1 hz;have hzv:(zeroValue t).run P w=.ok z w:=by simp[zeroValue,typeInfo,hi,hz']
  unfold Oper.wp execOp;simp only[Instr.alloc,Sem.run_bind,hzv,Result.andThen_ok,newVar,newRow,newObj,hcs,Sem.run_pure];refine hK _ _ (k w.heap.size {w with heap:=w.heap.push (.cells cs.toArray t)} ?_);exact hI.new ⟨rfl,rfl,rfl,by simp,λk hk _=>by grind⟩ (by show(w.heap.push _)[w.heap.size]? =_;simp) (by simp[blk]) (by simp[blk])
theorem aR{x y}{t n b off:Nat}{e cs vs}(hI:Inv T w0 w m)(hx:a.eval x=.pointer (some ⟨b,off,none⟩))(hv:(a.eval y).cells=vs.toArray)(hu:aU (blk b e cs) (blk b e (splice cs off vs)) m m')(hn:(P.info? t).map (·.size)=some n)(hl:vs.length=n)(hoff:off+n<=cs.length)(h1:∀u∈vs,u.oneCell'=true)(k:∀w',Inv T w0 w' m'->wpList P ops Q rest (a.put dst undef) w'):wpList P ops Q (⟨dst,.store t x y,ty,pos,af,none⟩::rest) a w:=
 wpList_plain rfl λK hK=>by
  have hb:w.heap[b]? =some (.cells cs.toArray e (0,0)):=by
   grind[aU.split,Inv.blk]
  obtain⟨w',hr,hs,hsz,hh⟩:=uT (P:=P) hn vs hv hl h1 hb off hoff;unfold Oper.wp execOp;simp only[hx,Instr.storeAt,Instr.sureAddr,Sem.run_bind,Sem.run_pure,Result.andThen_ok,hr];exact hK _ _ (k w' (hI.upd hu hs hh (λk hk=> .inl hk) (by simp[blk])))
theorem qC{fn:Func}{p u}{t n b:Nat}{e cs tmps}(hI:Inv T w0 w m)(h:fn.results=#[.cell p t,.tmp u])(hp:tmps.getD p undef=.pointer (some ⟨b,0,none⟩))(hm:blk b e cs∈m)(hT:gm P t n)(hl:cs.length=n):(results fn tmps).run P w=.ok (.tuple #[.agg cs.toArray,tmps.getD u undef]) w:=by
 rw[results_cell_tmp h,hp];simp only[asAddr,Sem.run_pure,Result.andThen_ok,iT hT (hI.blk hm) 0 OM]
 grind
theorem Lx{fn p}{t n b:Nat}{e cs tmps}(hI:Inv T w0 w m)(h:fn.results=#[.cell p t])(hp:tmps.getD p undef=.pointer (some ⟨b,0,none⟩))(hm:blk b e cs∈m)(hT:gm P t n)(hl:cs.length=n):(results fn tmps).run P w=.ok (.agg cs.toArray) w:=by
 have hp':tmps[p]?.getD undef=.pointer (some ⟨b,0,none⟩):=by simp_all
 subst hl;have:=iT hT (hI.blk hm) 0 OM;simp[results,h,hp',asAddr,this]
end
section
variable {P:Program}{ops:Array Oper}
def xy(A:Act)(C:World->Prop):Exit->Act->World->Prop:=λe a w=>e=.normal∧a=A∧C w
def ym(A:Act)(C:World->Prop):Act->World->Prop:=λa w=>a=A∧C w
theorem WY{A a:Act}{dst v u}(hsz:a.tmps.size=A.tmps.size)(h:A.put dst u=A.put dst v):a.put dst u=a.put dst v:=by
 cases dst with
 |none=>rfl
 |some d=>
  simp only[Act.put,Act.mk.injEq,and_true]at h|-;rcases Nat.lt_or_ge d A.tmps.size with hd|hd
  ·have:=congrArg (λx=>x[d]?) h
   grind
  grind
theorem BP{o a A w C v K Q}(he:execOp a.eval o=execOp A.eval o)(hsz:a.tmps.size=A.tmps.size)(h:o.wp P A w (ym (A.put o.dst v) C) (λ_ _ _=>False))(hk:∀w',C w'->K (a.put o.dst v) w'):o.wp P a w K Q:=by
 unfold Oper.wp at h|-;rw[he];generalize(execOp A.eval o).run P w=r at h;have fin:∀u w',ym (A.put o.dst v) C (A.put o.dst u) w'->K (a.put o.dst u) w':=λu w' hh=>by
  rw[WY hsz hh.1];exact hk w' hh.2
 cases r with
 |ok n w'=>
  cases n<;>simp only[Oper.upon]at h|-
  case value u=>grind
  case skip=>grind
  case enter f args=>
   refine h.mono λe w'' hh=>?_
   cases e with
   |returned u=>grind
   |panicked c=>grind
   |outgrown=>obtain⟨_,_,hh⟩:=hh;grind
  case defer d=>
   have:=congrArg Act.defers h.1;cases ho:o.dst<;>rw[ho]at this<;>simp[Act.put]at this
  grind[Go.Rows.mono]
 |halt x w'=>cases x<;>simp only[Oper.upon]at h
theorem Uq{o a w A C}(hw:Region.wanted o (yielded ops a.tmps)=true)(h:wpList P ops (xy A C) [o] a w):o.wp P a w (ym A C) (λ_ _ _=>False):=by
 unfold wpList at h;rw[if_pos hw]at h;rcases h with h| ⟨_,a',w',h⟩
 ·unfold Oper.wp at h|-
  generalize(execOp a.eval o).run P w=r at h;have one:∀a w,wpList P ops (xy A C) [] a w->ym A C a w:=λa w hh=>hh.2
  cases r with
  |ok n w'=>
   cases n<;>simp only[Oper.upon]at h|-
   case value u=>grind
   case skip=>grind
   case defer d=>grind
   case enter f args=>
    refine h.mono λe w'' hh=>?_
    cases e with
    |returned u=>grind
    |panicked c=>cases hh.1
    |outgrown=>obtain⟨_,_,hh⟩:=hh;cases hh.1
   grind[Go.Rows.mono]
  |halt x w'=>cases x<;>simp only[Oper.upon]at h|-<;>(cases h.1)
 ·cases h.1
def BQ(ops:Array Oper):Nat->Nat->Nat->Bool
 |0,_,_=>false
 |f+1,k,j=>match ops[k]? with
  |none=>false
  |some o=>o.after.toList.any λe=>Region.binds .any e&&(e.on==j||BQ ops f e.on j)
def ordered(ops:Array Oper)(k s:Nat):Bool:=if s<k then BQ ops ops.size k s else BQ ops ops.size s k
def rd(ops:Array Oper)(S:List Nat)(k:Nat):Bool:=S.all λs=>s==k||ordered ops k s
def WZ(ops:Array Oper)(k:Nat)(o:Oper):Bool:=(o.looksAt ops).all λt=>(List.range ops.size).all λj=>
 !((ops[j]?).bind (·.dst)==some t) || (decide (j<k)&&BQ ops ops.size k j)
def W_(ops:Array Oper):Bool:=(List.range ops.size).all λi=>(List.range ops.size).all λj=>i==j|| ((ops[i]?).bind (·.dst)).isNone || !((ops[i]?).bind (·.dst)==(ops[j]?).bind (·.dst))
def R_(ops:Array Oper)(S:List Nat):Bool:=Region.noSelect ops&&W_ ops&&S.all (rd ops S)&&
 (List.range ops.size).all λk=>match ops[k]? with
  |none=>true
  |some o=>(o.after.all λe=> !Region.binds .any e||decide (e.on<k))&&WZ ops k o
def lu(P:Program)(ops:Array Oper)(S:List Nat)(E:World->Prop)(F:(World->Prop)->Act->Prop):List Oper->Nat->(World->Prop)->Act->Prop
 | [],_,C,a=>F C a
 |o::rest,k,C,a=>if Region.wanted o (yielded ops a.tmps)then
   ∃(v:Value) (C':World->Prop),lu P ops S E F rest (k+1) C' (a.put o.dst v)∧
    ((S.elem k=false∧C'=C∧∀D:World->Prop,∀w,D w->E w->o.wp P a w (ym (a.put o.dst v) D) (λ_ _ _=>False))∨
     (rd ops S k=true∧(C'=C∨(k∈S∧∀w,C' w->E w))∧∀w,C w->o.wp P a w (ym (a.put o.dst v) C') (λ_ _ _=>False)))
  else lu P ops S E F rest (k+1) C (a.put o.dst undef)
theorem wB{S E F}:∀l k C a,(∀j,l[j]? =ops[k+j]?)->lu P ops S E F l k C a->
  ∃(A:Nat->Act) (Cs:Nat->World->Prop) (vals:Nat->Value),A k=a∧Cs k=C∧F (Cs (k+l.length)) (A (k+l.length))∧
   ∀i,k<=i->i<k+l.length->∀o,ops[i]? =some o->A (i+1)=(A i).put o.dst (vals i)∧
    if Region.wanted o (yielded ops (A i).tmps)then
     ((S.elem i=false∧Cs (i+1)=Cs i∧∀D,∀w,D w->E w->o.wp P (A i) w (ym ((A i).put o.dst (vals i)) D) (λ_ _ _=>False))∨
      (rd ops S i=true∧(Cs (i+1)=Cs i∨(i∈S∧∀w,Cs (i+1) w->E w))∧∀w,Cs i w->o.wp P (A i) w (ym ((A i).put o.dst (vals i)) (Cs (i+1))) (λ_ _ _=>False)))
    else Cs (i+1)=Cs i∧vals i=undef
 | [],k,C,a,_,h=>⟨λ_=>a,λ_=>C,λ_=>undef,rfl,rfl,h,λi h1 h2=>by grind⟩
 |o::l,k,C,a,hl,h=>by
  have h0:ops[k]? =some o:=by simpa using(hl 0).symm
  have hl':∀j,l[j]? =ops[k+1+j]? :=λj=>by have:=hl (j+1);grind
  have key:∀(v:Value) (C':World->Prop),lu P ops S E F l (k+1) C' (a.put o.dst v)->
    (if Region.wanted o (yielded ops a.tmps)then
     ((S.elem k=false∧C'=C∧∀D:World->Prop,∀w,D w->E w->o.wp P a w (ym (a.put o.dst v) D) (λ_ _ _=>False))∨
      (rd ops S k=true∧(C'=C∨(k∈S∧∀w,C' w->E w))∧∀w,C w->o.wp P a w (ym (a.put o.dst v) C') (λ_ _ _=>False)))
    else C'=C∧v=undef)->
    ∃(A:Nat->Act) (Cs:Nat->World->Prop) (vals:Nat->Value),A k=a∧Cs k=C∧F (Cs (k+(o::l).length)) (A (k+(o::l).length))∧
     ∀i,k<=i->i<k+(o::l).length->∀o',ops[i]? =some o'->A (i+1)=(A i).put o'.dst (vals i)∧
      if Region.wanted o' (yielded ops (A i).tmps)then
       ((S.elem i=false∧Cs (i+1)=Cs i∧∀D:World->Prop,∀w,D w->E w->o'.wp P (A i) w (ym ((A i).put o'.dst (vals i)) D) (λ_ _ _=>False))∨
        (rd ops S i=true∧(Cs (i+1)=Cs i∨(i∈S∧∀w,Cs (i+1) w->E w))∧∀w,Cs i w->o'.wp P (A i) w (ym ((A i).put o'.dst (vals i)) (Cs (i+1))) (λ_ _ _=>False)))
      else Cs (i+1)=Cs i∧vals i=undef:=by
   intro v C' hr hf;obtain⟨A,Cs,vals,hA,hC,hF,hs⟩:=wB l (k+1) C' _ hl' hr;refine⟨λi=>if i=k then a else A i,λi=>if i=k then C else Cs i,λi=>if i=k then v else vals i,by simp,by simp,?_,?_⟩
   ·grind
   ·intro i h1 h2 o' ho'
    by_cases hik:i=k
    ·grind
    ·grind
  unfold lu at h;by_cases hw:Region.wanted o (yielded ops a.tmps)=true
  ·rw[if_pos hw]at h
   obtain⟨v,C',hr,hf⟩:=h;exact key v C' hr (by grind)
  ·rw[if_neg hw]at h
   exact key undef C h (by grind)
def Closed(ops:Array Oper)(L:Array Bool):Prop:=L.size=ops.size∧∀j oj,ops[j]? =some oj->L.getD j false=true->∀e∈oj.after,Region.binds .any e=true->L.getD e.on false=true
theorem o9{L}(hc:Closed ops L):∀f k j,BQ ops f k j=true->(∃o,ops[k]? =some o∧∀e∈o.after,Region.binds .any e=true->L.getD e.on false=true)->L.getD j false=true
 |0,_,_,h,_=>by grind[BQ]
 |f+1,k,j,h,⟨o,ho,hall⟩=>by
  simp only[BQ,ho]at h;obtain⟨e,he,hb⟩:=List.any_eq_true.1 h;simp only[Bool.and_eq_true,Bool.or_eq_true,beq_iff_eq]at hb;have hl:=hall e (by grind) hb.1;rcases hb.2 with h1|h1
  ·grind
  ·refine o9 hc f e.on j h1 ?_
   have hlt:e.on<ops.size:=by
    rw[<-hc.1]
    grind
   exact⟨ops[e.on],by grind,λe' he' hb'=>hc.2 e.on _ (by grind) hl e' he' hb'⟩
theorem GQ{L}(hc:Closed ops L){f k j}(h:BQ ops f k j=true)(hk:L.getD k false=true):L.getD j false=true:=by
 refine o9 hc f k j h ?_;have hlt:k<ops.size:=by
  rw[<-hc.1]
  grind
 exact⟨ops[k],by grind,λe' he' hb'=>hc.2 k _ (by grind) hk e' he' hb'⟩
structure Rel (ops:Array Oper) (a0:Act) (vals:Nat->Value) (L:Nat->Bool) (a:Act):Prop where
 defers:a.defers=a0.defers
 size:a.tmps.size=a0.tmps.size
 put:∀j d,L j=true->(ops[j]?).bind (·.dst)=some d->d<a0.tmps.size->a.tmps[d]? =some (vals j)
 rest:∀t,(∀j,L j=true->(ops[j]?).bind (·.dst)≠some t)->a.tmps[t]? =a0.tmps[t]?
theorem Rel.start(a0 vals):Rel ops a0 vals (λ_=>false) a0:=⟨rfl,rfl,λ_ _ h=>(by cases h),λ_ _=>rfl⟩
theorem Ur(h:W_ ops=true){i j:Nat}{d}(hi:(ops[i]?).bind (·.dst)=some d)(hj:(ops[j]?).bind (·.dst)=some d):i=j:=by
 have h1:=List.all_eq_true.1 h i (by grind)
 grind
theorem Rel.step{a0 a vals L}(h:Rel ops a0 vals L a)(hd:W_ ops=true){i o}(ho:ops[i]? =some o)(L')(hL':∀j,L' j=(L j||j==i)):
  Rel ops a0 vals L' (a.put o.dst (vals i)):=by
 have hdi:(ops[i]?).bind (·.dst)=o.dst:=by grind
 cases hod:o.dst with
 |none=>
  refine⟨h.defers,h.size,λj d hj hjd hlt=>?_,λt ht=>h.rest t λj hj=>ht j (by grind)⟩;rw[hL']at hj;simp only[Bool.or_eq_true,beq_iff_eq]at hj;rcases hj with hj|rfl
  ·exact h.put j d hj hjd hlt
  grind
 |some d0=>
  refine⟨h.defers,by simp[Act.put,h.size],λj d hj hjd hlt=>?_,λt ht=>?_⟩
  ·rw[hL']at hj
   simp only[Bool.or_eq_true,beq_iff_eq]at hj;by_cases hdd:d0=d
   ·subst hdd
    obtain rfl:=Ur hd hjd (hdi.trans hod);have:d0<a.tmps.size:=by grind[Rel.size]
    simp[Act.put,this]
   ·rcases hj with hj|rfl
    ·simp only[Act.put,Array.getElem?_setIfInBounds_ne hdd];grind[Rel.put]
    grind
  ·have hne:d0≠t:=λe=>ht i (by grind) (by grind)
   simp only[Act.put,Array.getElem?_setIfInBounds_ne hne]
   grind[Rel.rest]
theorem Rel.ext{a0 a b vals L}(h:Rel ops a0 vals L a)(h':Rel ops a0 vals L b):a=b:=by
 have hs:a.tmps=b.tmps:=by
  apply Array.ext_getElem?;intro t;by_cases ht:∃j,L j=true∧(ops[j]?).bind (·.dst)=some t
  ·grind[Rel.put,Rel.size]
  ·have hn:∀j,L j=true->(ops[j]?).bind (·.dst)≠some t:=λj hj hd=>ht ⟨j,hj,hd⟩
   rw[h.rest t hn,h'.rest t hn]
 cases a;cases b;have h1:=h.defers;have h2:=h'.defers
 grind
theorem Rel.look{a0 a b vals L L'}(h:Rel ops a0 vals L a)(h':Rel ops a0 vals L' b){t}(hk:∀j,(ops[j]?).bind Oper.dst=some t->L j=true∧L' j=true):a.tmps.getD t undef=b.tmps.getD t undef:=by
 have:a.tmps[t]? =b.tmps[t]? :=by
  by_cases ht:∃j:Nat,(ops[j]?).bind Oper.dst=some t
  ·grind[Rel.put,Rel.size]
  ·have hn:∀j:Nat,(ops[j]?).bind Oper.dst≠some t:=λj hd=>ht ⟨j,hd⟩
   rw[h.rest t λj _=>hn j,h'.rest t λj _=>hn j]
 simp_all
theorem Du{S:List Nat}{Cs:Nat->World->Prop}{n}(hs:∀i,i<n->S.elem i=false->Cs (i+1)=Cs i):∀d i,i+d<=n->(∀s∈S,s<n->¬(i<=s∧s<i+d))->Cs (i+d)=Cs i
 |0,_,_,_=>rfl
 |d+1,i,hl,hn=>by
  have h1:=Du hs d i OM (λs hs' hsn hh=>hn s hs' hsn OM)
  grind
theorem JC{S:List Nat}{Cs:Nat->World->Prop}{n}(hs:∀i,i<n->S.elem i=false->Cs (i+1)=Cs i){i k}(hi:i<=n)(hk:k<=n)(h:∀s∈S,s<n->(s<i↔s<k)):Cs i=Cs k:=by
 rcases Nat.le_total i k with hik|hik
 ·have:=Du hs (k-i) i OM (λs hs' hsn hh=>by grind)
  simp_all
 ·have:=Du hs (i-k) k OM (λs hs' hsn hh=>by grind)
  simp_all
theorem getD_lt{L:Array Bool}{j}(h:L.getD j false=true):j<L.size:=by grind
theorem uV{L:Array Bool}{j}(hj:j<L.size):L.getD j true=L.getD j false:=by simp[hj]
theorem Us{S}{E:World->Prop}{Q}(hB:R_ ops S=true){a0}{A:Nat->Act}{Cs:Nat->World->Prop}{vals}(hA0:A 0=a0)(hE0:∀w,Cs 0 w->E w)(hend:∀w,Cs ops.size w->Q .normal (A ops.size) w)(hf:∀i,i<ops.size->∀o,ops[i]? =some o->A (i+1)=(A i).put o.dst (vals i)∧
    if Region.wanted o (yielded ops (A i).tmps)then
     ((S.elem i=false∧Cs (i+1)=Cs i∧∀D,∀w,D w->E w->o.wp P (A i) w (ym ((A i).put o.dst (vals i)) D) (λ_ _ _=>False))∨
      (rd ops S i=true∧(Cs (i+1)=Cs i∨(i∈S∧∀w,Cs (i+1) w->E w))∧∀w,Cs i w->o.wp P (A i) w (ym ((A i).put o.dst (vals i)) (Cs (i+1))) (λ_ _ _=>False)))
    else Cs (i+1)=Cs i∧vals i=undef):
  ∀fuel L a w k,((List.range ops.size).filter λj=> !L.getD j false).length=fuel->Closed ops L->Rel ops a0 vals (λj=>L.getD j false) a->
   k<=ops.size->(∀s∈S,s<ops.size->(L.getD s false=true↔s<k))->Cs k w->wpAny P .any ops Q fuel L a w:=by
 simp only[R_,Bool.and_eq_true]at hB;obtain⟨⟨⟨hsel,hd⟩,aiQ⟩,hlk⟩:=hB;have hops:∀ {i:Nat} {o:Oper},ops[i]? =some o->i<ops.size∧(∀e∈o.after,Region.binds .any e=true->e.on<i)∧WZ ops i o=true:=by
  intro i o ho;have hi:i<ops.size:=(Array.getElem?_eq_some_iff.1 ho).1;have h1:=List.all_eq_true.1 hlk i (by grind);simp only[ho,Bool.and_eq_true]at h1
  grind[Array.all_eq_true_iff_forall_mem]
 have hsame:∀i,i<ops.size->S.elem i=false->Cs (i+1)=Cs i:=by
  intro i hi hS;obtain⟨_,h2⟩:=hf i hi ops[i] (by simp[hi])
  grind
 have hE:∀k,k<=ops.size->∀w,Cs k w->E w:=by
  intro k
  induction k with
  |zero=>grind
  |succ k ih=>
   intro hk w hw;obtain⟨_,h2⟩:=hf k OM ops[k] (by grind)
   grind
 have hlex:∀k,k<=ops.size->Rel ops a0 vals (λj=>decide (j<k)) (A k):=by
  intro k
  induction k with
  |zero=>simp_all[Rel.start]
  |succ k ih=>
   intro hk;have ho:ops[k]? =some ops[k]:=by grind
   rw[(hf k OM _ ho).1];exact(ih OM).step hd ho _ (λj=>by grind)
 have done:∀(L:Array Bool) (a:Act) (w:World) (k:Nat),Closed ops L->Rel ops a0 vals (λj=>L.getD j false) a->k<=ops.size->(∀s∈S,s<ops.size->(L.getD s false=true↔s<k))->Cs k w->
   Region.ready .any ops L=[]->Q .normal a w:=by
  intro L a w k hc hr hk hS hC hre;have all:∀j,j<ops.size->L.getD j false=true:=by
   intro j
   induction j using Nat.strongRecOn with
   |_ j ih=>
    intro hj;cases hL:L.getD j false
    ·have ho:ops[j]? =some ops[j]:=by simp[hj]
     have:j∈Region.ready .any ops L:=mem_ready.2 ⟨by rw[uV (by rw[hc.1];exact hj)];exact hL,ops[j],ho,λe he hb=>by
      grind⟩
     grind
    ·rfl
  have e:(λj=>L.getD j false)=(λj=>decide (j<ops.size)):=by
   funext j;by_cases hj:j<ops.size
   ·grind
   ·cases hL:L.getD j false
    ·simp[hj]
    ·exact absurd (by rw[<-hc.1];exact getD_lt hL) hj
  rw[e]at hr;have hae:=hr.ext (hlex _ (Nat.le_refl _));have hCe:Cs k=Cs ops.size:=JC hsame hk (Nat.le_refl _) (λs hs hsn=>by have:=hS s hs hsn;rw[all s hsn]at this;simp at this;omega)
  grind
 intro fuel
 induction fuel with
 |zero=>
  intro L a w k hcnt hc hr hk hS hC;have hre:Region.ready .any ops L=[]:=by
   rw[List.eq_nil_iff_forall_not_mem];intro j hj;obtain⟨h1,o,ho,_⟩:=mem_ready.1 hj;have hj':=(hops ho).1;have:j∈(List.range ops.size).filter λj=> !L.getD j false:=by
    rw[List.mem_filter];refine⟨by simpa using hj',?_⟩;rw[uV (by rw[hc.1];exact hj')]at h1;simp[h1]
   rw[List.eq_nil_of_length_eq_zero hcnt]at this;cases this
  exact⟨hre,done L a w k hc hr hk hS hC hre⟩
 |succ fuel ih=>
  intro L a w k hcnt hc hr hk hS hC;refine⟨λhre=>done L a w k hc hr hk hS hC hre,λi hi=>?_⟩;obtain⟨hun,o,ho,hall⟩:=mem_ready.1 hi;obtain⟨hilt,hback,aiR⟩:=hops ho;have hLs:i<L.size:=by rw[hc.1];exact hilt
  have aca:L.getD i false=false:=by rw[<-uV hLs];exact hun
  have hget:∀j,(L.setIfInBounds i true).getD j false=(L.getD j false||j==i):=by
   intro j;by_cases hji:i=j
   ·subst hji;simp[hLs]
   ·rw[getD_set_ne false hji]
    have:(j==i)=false:=by simpa using λh=>hji h.symm
    rw[this];simp
  have hc':Closed ops (L.setIfInBounds i true):=by
   refine⟨by simpa using hc.1,λj oj hoj hj e he hb=>?_⟩;rw[hget]at hj|-;simp only[Bool.or_eq_true,beq_iff_eq]at hj;rcases hj with hj|rfl
   ·rw[hc.2 j oj hoj hj e he hb];rfl
   ·obtain rfl:=Option.some.inj (ho.symm.trans hoj)
    rw[hall e he hb];rfl
  have LC:((List.range ops.size).filter λj=> !(L.setIfInBounds i true).getD j false).length=fuel:=by
   have e:((List.range ops.size).filter λj=> !(L.setIfInBounds i true).getD j false)=((List.range ops.size).filter λj=> !L.getD j false).erase i:=by
    rw[List.Nodup.erase_eq_filter (List.nodup_range.filter _),List.filter_filter];apply List.filter_congr;intro j _;rw[hget];by_cases hji:j=i
    ·simp[hji]
    ·have h1:(j==i)=false:=by simpa using hji
     have h2:(j != i)=true:=by simpa using hji
     rw[h1,h2];simp
   rw[e,List.length_erase_of_mem (by rw[List.mem_filter];exact⟨by simpa using hilt,by simp[aca]⟩),hcnt];rfl
  have afV:∀j,BQ ops ops.size i j=true->L.getD j false=true:=λj h=>o9 hc _ _ _ h ⟨o,ho,hall⟩
  have hrel:Rel ops a0 vals (λj=>(L.setIfInBounds i true).getD j false) (a.put o.dst (vals i)):=hr.step hd ho _ (λj=>hget j);obtain⟨hstep,hfi⟩:=hf i hilt o ho;have afa:∀t∈o.looksAt ops,a.tmps.getD t undef=(A i).tmps.getD t undef:=by
   intro t ht;refine hr.look (hlex i OM) (t:=t) λj hj=>?_
   have h1:=List.all_eq_true.1 aiR t ht;have hjlt:j<ops.size:=by
    rcases Nat.lt_or_ge j ops.size with h'|h'
    ·exact h'
    ·simp[Array.getElem?_eq_none h']at hj
   have h2:=List.all_eq_true.1 h1 j (by simpa using hjlt);simp only[hj,beq_self_eq_true,Bool.not_true,Bool.false_or,Bool.and_eq_true,decide_eq_true_eq]at h2;exact⟨afV j h2.2,by simpa using h2.1⟩
  have hex:execOp a.eval o=execOp (A i).eval o:=by
   refine execOp_congr o (λcs b=>Region.noSelect_spec hsel i o cs b ho) λx hx=>?_
   cases x with
   |tmp t=>exact afa t (by simp only[Oper.looksAt,List.mem_append,List.mem_filterMap];exact .inl ⟨.tmp t,by simpa using hx,rfl⟩)
   |_=>rfl
  have hwant:Region.wanted o (yielded ops a.tmps)=Region.wanted o (yielded ops (A i).tmps):=by
   unfold Region.wanted;cases hg:o.guard with
   |none=>rfl
   |some g=>
    obtain⟨j,wv⟩:=g;simp only;unfold yielded;cases hdj:(ops[j]?).bind (·.dst)with
    |none=>rfl
    |some t=>
     have hs:=afa t (by simp only[Oper.looksAt,List.mem_append];right;simp[hg,hdj]);have hsz:a.tmps.size=(A i).tmps.size:=by rw[hr.size,(hlex i OM).size]
     have:a.tmps[t]? =(A i).tmps[t]? :=by
      rcases Nat.lt_or_ge t a.tmps.size with hlt|hlt
      ·have hlt':t< (A i).tmps.size:=by rw[<-hsz];exact hlt
       simp only[Array.getD_eq_getD_getElem?,hlt,hlt',Array.getElem?_eq_getElem,Option.getD_some]at hs;simp only[hlt,hlt',Array.getElem?_eq_getElem,hs]
      ·rw[Array.getElem?_eq_none hlt,Array.getElem?_eq_none (by rw[<-hsz];exact hlt)]
     simp only[Option.bind_some,this]
  have hsz:a.tmps.size=(A i).tmps.size:=by rw[hr.size,(hlex i OM).size]
  have place:rd ops S i=true->(∀s∈S,s<ops.size->(L.getD s false=true↔s<i)):=by
   intro hrd s hs hsn;have h1:=List.all_eq_true.1 hrd s hs;simp only[Bool.or_eq_true,beq_iff_eq]at h1;rcases h1 with rfl|h1
   ·rw[aca];simp
   ·unfold ordered at h1
    split at h1
    ·rename_i hlt
     rw[afV s h1];simpa using hlt
    ·rename_i hge
     constructor
     ·intro hsl
      rw[GQ hc h1 hsl]at aca;cases aca
     ·intro h;omega
  have hC':rd ops S i=true->Cs i w:=λhrd=>by
   have:=JC hsame (show i<=ops.size by omega) hk (λs hs hsn=>((place hrd s hs hsn).symm.trans (hS s hs hsn)));rw[this];exact hC
  have Xa:S.elem i=false->∀s∈S,s<ops.size->((L.setIfInBounds i true).getD s false=true↔s<k):=by
   intro hSi s hs hsn;rw[hget];have:(s==i)=false:=by
    cases hsi:(s==i)
    ·rfl
    ·have:s=i:=by simpa using hsi
     subst this;have:S.elem s=true:=by simpa using hs
     rw[this]at hSi;cases hSi
   rw[this,Bool.or_false];exact hS s hs hsn
  have afb:i∈S->∀s∈S,s<ops.size->((L.setIfInBounds i true).getD s false=true↔s<i+1):=by
   intro WR s hs hsn;have hrd:=List.all_eq_true.1 aiQ i WR;rw[hget];have:=place hrd s hs hsn;by_cases hsi:s=i
   ·subst hsi;simp
   ·have e:(s==i)=false:=by simpa using hsi
    rw[e,Bool.or_false,this];omega
  unfold wpOp;simp only[ho];rw[hwant];by_cases hw:Region.wanted o (yielded ops (A i).tmps)=true
  ·rw[if_pos hw]at hfi|-
   left
   rcases hfi with⟨hSi,hCe,hany⟩ | ⟨hrd,hcs,hrun⟩
   ·refine BP hex hsz (hany (Cs k) w hC (hE k hk w hC)) λw' hw'=>?_
    exact ih _ _ w' k LC hc' hrel hk (Xa hSi) hw'
   ·refine BP hex hsz (hrun w (hC' hrd)) λw' hw'=>?_
    by_cases WR:i∈S
    ·exact ih _ _ w' (i+1) LC hc' hrel OM (afb WR) hw'
    ·have hSi:S.elem i=false:=by
      cases h:S.elem i
      ·rfl
      ·exact absurd (by simpa using h) WR
     have hce:=JC hsame (show i<=ops.size by omega) hk (λs hs hsn=>((place hrd s hs hsn).symm.trans (hS s hs hsn)));exact ih _ _ w' k LC hc' hrel hk (Xa hSi) (by rw[<-hce,<-hsame i hilt hSi];exact hw')
  ·rw[if_neg hw]at hfi|-
   rw[hfi.2]at hrel;by_cases WR:i∈S
   ·have hrd:=List.all_eq_true.1 aiQ i WR
    exact ih _ _ w (i+1) LC hc' hrel OM (afb WR) (by rw[hfi.1];exact hC' hrd)
   ·have hSi:S.elem i=false:=by
     cases h:S.elem i
     ·rfl
     ·exact absurd (by simpa using h) WR
    exact ih _ _ w k LC hc' hrel hk (Xa hSi) hC
theorem aJ{id l Q a w C}(S E)(hC:C w.drew)(hE:∀w,C w->E w)(hm:P.follows .mixedOrders=true)(hB:R_ l.toArray S=true)(h:lu P l.toArray S E (λC a=>∀w,C w->Q .normal a w) l 0 C a):(Code.region id l.toArray true).wp P Q a w:=by
 refine wp_region_any hm ?_;obtain⟨A,Cs,vals,hA,hCs,hF,hs⟩:=wB (ops:=l.toArray) l 0 C a (λj=>by simp) h;have hn:0+l.length=l.toArray.size:=by simp
 rw[hn]at hF;refine Us hB hA (hCs.symm▸hE) (λw hw=>hF w hw) (λi hi o ho=>hs i OM OM o ho) _ _ a _ 0 ?_ ⟨by simp,λj oj _ hj=>?_⟩ ?_ OM (λs _ _=>?_) (by simp_all)
 ·grind[Go.getD_replicate_false,List.filter_eq_self]
 ·grind[Go.getD_replicate_false]
 ·have:(λj=>(Array.replicate l.toArray.size false).getD j false)=λ_=>false:=funext (getD_replicate_false _)
  grind[Rel.start]
 simp_all
section
variable {S:List Nat}{E:World->Prop}{F:(World->Prop)->Act->Prop}{rest:List Oper}{k:Nat}{C:World->Prop}{a A':Act}{dst:Option Tmp}{op:Op}{ty:TypeId}{pos:String}{af:Array Edge}{g:Option (Nat×Bool)}
theorem bH(h:F C a):lu P ops S E F [] k C a:=h
theorem rq(hw:Region.wanted ⟨dst,op,ty,pos,af,g⟩ (yielded ops a.tmps)=false)(h:lu P ops S E F rest (k+1) C (a.put dst undef)):lu P ops S E F (⟨dst,op,ty,pos,af,g⟩::rest) k C a:=by
 simp_all[lu]
theorem yL{w D}(h:wpList P ops (xy A' D) [⟨dst,op,ty,pos,af,none⟩] a w):Oper.wp P ⟨dst,op,ty,pos,af,g⟩ a w (ym A' D) (λ_ _ _=>False):=by
 have h1:=Uq (by simp[Region.wanted]) h;unfold Oper.wp at h1|-;have e:execOp a.eval ⟨dst,op,ty,pos,af,g⟩=execOp a.eval ⟨dst,op,ty,pos,af,none⟩:=rfl;rw[e];generalize(execOp a.eval ⟨dst,op,ty,pos,af,none⟩).run P w=r at h1|-;cases r with
 |ok n w'=>cases n<;>exact h1
 |halt x w'=>cases x<;>exact h1
theorem bu(hw:Region.wanted ⟨dst,op,ty,pos,af,g⟩ (yielded ops a.tmps)=true)(hrd:rd ops S k=true)(h:∀w,C w->wpList P ops (xy A' C) [⟨dst,op,ty,pos,af,none⟩] a w)(hA:∃v,A'=a.put dst v)(hr:lu P ops S E F rest (k+1) C A'):lu P ops S E F (⟨dst,op,ty,pos,af,g⟩::rest) k C a:=by
 unfold lu
 grind[yL]
theorem dG(hw:Region.wanted ⟨dst,op,ty,pos,af,g⟩ (yielded ops a.tmps)=true)(hS:S.elem k=false)(h:∀D w,D w->E w->wpList P ops (xy A' D) [⟨dst,op,ty,pos,af,none⟩] a w)(hA:∃v,A'=a.put dst v)(hr:lu P ops S E F rest (k+1) C A'):lu P ops S E F (⟨dst,op,ty,pos,af,g⟩::rest) k C a:=by
 obtain⟨v,rfl⟩:=hA;unfold lu;rw[if_pos hw];exact⟨v,C,hr,.inl ⟨hS,rfl,λD w hw hE=>yL (h D w hw hE)⟩⟩
theorem dL{C'}(hw:Region.wanted ⟨dst,op,ty,pos,af,g⟩ (yielded ops a.tmps)=true)(hkS:S.elem k=true)(hrd:rd ops S k=true)(h:∀w,C w->wpList P ops (xy A' C') [⟨dst,op,ty,pos,af,none⟩] a w)(hA:∃v,A'=a.put dst v)(hCE:∀w,C' w->E w)(hr:lu P ops S E F rest (k+1) C' A'):lu P ops S E F (⟨dst,op,ty,pos,af,g⟩::rest) k C a:=by
 unfold lu
 grind[yL]
end
end
theorem iO{T w0 w m}(_:Inv T w0 w m):∃mE,mE=m:=⟨m,rfl⟩
def iv(x:Int):Value:=.int .i64 x
def eqv(cs ds:List Value):Bool:=decide (cs.map intOf=ds.map intOf)
theorem LD(cs):eqv cs cs=true:=by simp[eqv]
def LF(v:Value):Prop:=∃x,v=iv x
def Flat(P:Program)(t n D:Nat):Prop:=(P.underlying t=some (.int .i64)∧iY P t∧n=1∧1<=D)∨
 (gm P t n∧∀d,D<=d->∀(cs ds:List Value) (w:World),(∀v∈cs,LF v)->(∀v∈ds,LF v)->cs.length=n->ds.length=n->(Op.equalIn d t (.agg cs.toArray) (.agg ds.toArray)).run P w=.ok (eqv cs ds) w)
theorem Flat.int{P}{t D:Nat}(h:P.underlying t=some (.int .i64))(ha:iY P t)(hD:1<=D):Flat P t 1 D:=.inl ⟨h,ha,rfl,hD⟩
theorem Flat.agg{P}{t n D:Nat}(hT:gm P t n)(h:∀d,D<=d->∀cs ds w,(∀v∈cs,LF v)->(∀v∈ds,LF v)->cs.length=n->ds.length=n->(Op.equalIn d t (.agg cs.toArray) (.agg ds.toArray)).run P w=.ok (eqv cs ds) w):Flat P t n D:=.inr ⟨hT,h⟩
section
variable {P:Program}
theorem Flat.weak{t n D D'}(h:Flat P t n D)(hd:D<=D'):Flat P t n D':=by
 rcases h with⟨h1,h2,h3,h4⟩ | ⟨hT,h⟩
 ·exact .inl ⟨h1,h2,h3,Nat.le_trans h4 hd⟩
 ·exact .inr ⟨hT,λd hd'=>h d (Nat.le_trans hd hd')⟩
theorem Flat.part{t n D}(h:Flat P t n D)(d)(hd:D<=d)(cs ds:List Value)(w)(hc:∀v∈cs,LF v)(hds:∀v∈ds,LF v)(off)(h1:off+n<=cs.length)(h2:off+n<=ds.length):
  ∃x y,(Go.part t cs.toArray off).run P w=.ok x w∧(Go.part t ds.toArray off).run P w=.ok y w∧(Op.equalIn d t x y).run P w=.ok (eqv ((cs.drop off).take n) ((ds.drop off).take n)) w:=by
 rcases h with⟨h,ha,rfl,hD1⟩ | ⟨hT,h⟩
 ·have e1:off<cs.length:=by omega
  have e2:off<ds.length:=by omega
  obtain⟨x,hx⟩:=hc cs[off] (List.getElem_mem e1);obtain⟨y,hy⟩:=hds ds[off] (List.getElem_mem e2);refine⟨iv x,iv y,?_,?_,?_⟩
  ·simp_all[Go.part.eq_1,iY.isAgg]
  ·simp_all[Go.part.eq_1,iY.isAgg]
  ·obtain⟨d,rfl⟩:∃e,d=e+1:=⟨d-1,by omega⟩
   have:=run_equalIn_int (P:=P) w d t .i64 .i64 x y h;rw[List.drop_eq_getElem_cons e1,List.drop_eq_getElem_cons e2,hx,hy];simp only[List.take_succ_cons,List.take_zero,eqv,iv,List.map_cons,List.map_nil,intOf,List.cons.injEq,and_true]
   grind
 ·refine⟨_,_,?_,?_,h d hd ((cs.drop off).take n) ((ds.drop off).take n) w (λv hv=>hc v (List.mem_of_mem_drop (List.mem_of_mem_take hv))) (λv hv=>hds v (List.mem_of_mem_drop (List.mem_of_mem_take hv))) (by grind) (by grind)⟩
  ·rw[Go.part,Sem.run_bind,hT.isAgg,Result.andThen_ok]
   simp only[if_true];rw[Sem.run_bind,dX hT.size,Result.andThen_ok]
   simp_all
  ·rw[Go.part,Sem.run_bind,hT.isAgg,Result.andThen_ok]
   simp only[if_true];rw[Sem.run_bind,dX hT.size,Result.andThen_ok]
   simp_all
theorem Dv{a b c d}(h:a.length=c.length):eqv (a++b) (c++d)=(eqv a c&&eqv b d):=by
 unfold eqv
 grind[List.append_inj]
def BR(P:Program)(D:Nat):List Field->Nat->Nat->Prop
 | [],o,n=>o=n
 |f::fs,o,n=>f.name≠ "_" ∧f.offset=o∧∃k,Flat P f.type k D∧BR P D fs (o+k) n
theorem BR.le{D}:∀ {fs o n},BR P D fs o n->o<=n
 | [],_,_,h=>by cases h;omega
 |_::_,_,_,⟨_,_,k,_,h⟩=>by have:=BR.le h;omega
theorem zM{D}:∀fs o n,BR P D fs o n->∀d,D<=d->∀(cs ds:List Value) w,(∀v∈cs,LF v)->(∀v∈ds,LF v)->cs.length=n->ds.length=n->
  (Op.eqFields d cs.toArray ds.toArray fs).run P w=.ok (eqv (cs.drop o) (ds.drop o)) w
 | [],o,n,h,d,_,cs,ds,w,_,_,h1,h2=>by
  have h:o=n:=h;simp[Op.eqFields,List.drop_eq_nil_of_le,h1,h2,h,LD]
 |f::fs,o,n,⟨hn,ho,k,hf,hr⟩,d,hd,cs,ds,w,hc,hds,h1,h2=>by
  have hle:=BR.le hr;subst ho;obtain⟨x,y,hx,hy,he⟩:=hf.part d hd cs ds w hc hds f.offset OM OM;have ih':=zM fs (f.offset+k) n hr d hd cs ds w hc hds h1 h2;have split:∀l:List Value,l.length=n->l.drop f.offset=(l.drop f.offset).take k++l.drop (f.offset+k):=λl _=>by
   rw[<-List.drop_drop,List.take_append_drop]
  rw[split cs h1,split ds h2,Dv (by grind)];simp only[Op.eqFields,hn,ne_eq,not_false_eq_true,if_true,Sem.run_bind,hx,hy,he,Result.andThen_ok];cases eqv ((cs.drop f.offset).take k) ((ds.drop f.offset).take k)
  ·simp
  grind
theorem LG{t n D:Nat}(hT:gm P t n)(ht:P.underlying t=some (.struct (P.fieldsOf t)))(hp:P.stoodInHeld t=false)(h:BR P D (P.fieldsOf t).toList 0 n):Flat P t n (D+1):=by
 refine .agg hT λd hd cs ds w hc hds h1 h2=>?_
 obtain⟨d,rfl⟩:∃e,d=e+1:=⟨d-1,by omega⟩;rw[run_equalIn_struct w d t _ _ ht hp,zM _ 0 n h d OM cs ds w hc hds h1 h2];simp
def wC(P:Program)(D:Nat):List (Bool×Nat×TypeId)->Nat->Nat->Prop
 | [],o,n=>o=n
 |x::l,o,n=>x.1=false∧x.2.1=o∧∃k,Flat P x.2.2 k D∧wC P D l (o+k) n
theorem wC.nil{D n}:wC P D [] n n:=rfl
theorem wC.cons{D o k n t D' l}(h:Flat P t k D')(hD:D'<=D)(hr:wC P D l (o+k) n):wC P D ((false,o,t)::l) o n:=⟨rfl,rfl,k,h.weak hD,hr⟩
def Be(f:Field):Bool×Nat×TypeId:=(f.name== "_",f.offset,f.type)
theorem LH{D}:∀fs o n,wC P D (fs.map Be) o n->BR P D fs o n
 | [],_,_,h=>h
 |f::fs,o,n,h=>by
  obtain⟨h1,h2,k,h3,h4⟩:=h;exact⟨by grind[Be],h2,k,h3,LH fs _ _ h4⟩
theorem lV{t n D:Nat}{l}(hT:gm P t n)(ht:P.underlying t=some (.struct (P.fieldsOf t)))(hp:P.stoodInHeld t=false)(hl:(P.fieldsOf t).toList.map Be=l)(h:wC P D l 0 n):Flat P t n (D+1):=
 LG hT ht hp (LH _ 0 n (hl▸h))
theorem BS{e k D}(hf:Flat P e k D)(d)(hd:D<=d)(cs ds:List Value)(hc:∀v∈cs,LF v)(hds:∀v∈ds,LF v):∀m i w,cs.length=(i+m)*k->ds.length=(i+m)*k->
  (forIn (List.range' i m) ((none,()):Option Bool×Unit) λj _=>do
    if(!(<-Op.equalIn d e (<-Go.part e cs.toArray (j*k)) (<-Go.part e ds.toArray (j*k))))=true then pure (ForInStep.done (some false,()))else pure (ForInStep.yield (none,())):Sem (Option Bool×Unit)).run P w=
   .ok (if eqv (cs.drop (i*k)) (ds.drop (i*k))then(none,())else(some false,())) w
 |0,i,w,h1,h2=>by
  simp_all[List.drop_eq_nil_of_le,LD]
 |m+1,i,w,h1,h2=>by
  have e1:(i+(m+1))*k=i*k+k+m*k:=by grind
  obtain⟨x,y,hx,hy,he⟩:=hf.part d hd cs ds w hc hds (i*k) OM OM;have ih:=BS hf d hd cs ds hc hds m (i+1) w (by grind) (by grind);have split:∀l:List Value,l.drop (i*k)=(l.drop (i*k)).take k++l.drop ((i+1)*k):=λl=>by
   rw[Nat.succ_mul,<-List.drop_drop,List.take_append_drop]
  rw[split cs,split ds,Dv (by grind)];simp only[List.range'_succ,List.forIn_cons,Sem.run_bind,hx,hy,he,Result.andThen_ok];cases eqv ((cs.drop (i*k)).take k) ((ds.drop (i*k)).take k)
  ·simp
  ·simpa using ih
theorem uW{t e k m n D:Nat}(hT:gm P t n)(ht:P.underlying t=some (.array m e))(hk:(P.info? e).map (·.size)=some k)(hf:Flat P e k D)(hn:n=m*k):Flat P t n (D+1):=by
 refine .agg hT λd hd cs ds w hc hds h1 h2=>?_
 obtain⟨d,rfl⟩:∃e,d=e+1:=⟨d-1,by omega⟩;have hl:=BS hf d OM cs ds hc hds m 0 w (by grind) (by grind);simp only[Op.equalIn,Sem.run_bind,run_underlying ht,Result.andThen_ok,dX hk];rw[Std.Legacy.Range.forIn_eq_forIn_range'];simp only[Std.Legacy.Range.size,Nat.sub_zero,Nat.add_sub_cancel,Nat.div_one];rw[hl];simp only[Nat.zero_mul,List.drop_zero,Result.andThen_ok];cases eqv cs ds<;>simp
end
section
variable {P:Program}{ops:Array Oper}{Q:Exit->Act->World->Prop}{a:Act}{rest:List Oper}{T:List Nat}{w0 w:World}{m:List bT}{dst:Option Tmp}{ty:TypeId}{pos:String}{af:Array Edge}
structure oW (P:Program) (t n:Nat):Prop where
 flat:Flat P t n 20
 guard:P.eqGuardType P.depth t=false
theorem Flat.up{t n D D'}(h:Flat P t n D)(hd:D<=D'):∀d,D'<=d->∀cs ds w,gm P t n->(∀v∈cs,LF v)->(∀v∈ds,LF v)->cs.length=n->ds.length=n->(Op.equalIn d t (.agg cs.toArray) (.agg ds.toArray)).run P w=.ok (eqv cs ds) w:=by
 intro d hd' cs ds w hT hc hds h1 h2;rcases h with⟨h,_⟩ | ⟨_,h⟩
 ·have:=hT.1;grind
 grind
theorem OZ{x y}{t t' n:Nat}{cs ds}(hx:a.eval x=.agg cs.toArray)(hy:a.eval y=.agg ds.toArray)(hT:gm P t n)(hF:oW P t n)(hc:∀v∈cs,LF v)(hd:∀v∈ds,LF v)(h1:cs.length=n)(h2:ds.length=n)(k:wpList P ops Q rest (a.put dst (.bool (eqv cs ds))) w):wpList P ops Q (⟨dst,.binOp .eql t x y t',ty,pos,af,none⟩::rest) a w:=by
 refine av (v:=.bool (eqv cs ds)) ?_ k;unfold gu execOp;simp only[hx,hy,Sem.run_bind,run_eqGuard_agg w .eql t x y cs.toArray ds.toArray hF.guard,Result.andThen_ok,run_eql_struct,hF.flat.up (Nat.le_refl _) 10000 DC cs ds w hT hc hd h1 h2];rfl
theorem O0{x y}{t t' n:Nat}{cs ds}(hx:a.eval x=.agg cs.toArray)(hy:a.eval y=.agg ds.toArray)(hT:gm P t n)(hF:oW P t n)(hc:∀v∈cs,LF v)(hd:∀v∈ds,LF v)(h1:cs.length=n)(h2:ds.length=n)(k:wpList P ops Q rest (a.put dst (.bool (!eqv cs ds))) w):wpList P ops Q (⟨dst,.binOp .neq t x y t',ty,pos,af,none⟩::rest) a w:=by
 refine av (v:=.bool (!eqv cs ds)) ?_ k;unfold gu execOp;simp only[hx,hy,Sem.run_bind,run_eqGuard_agg w .neq t x y cs.toArray ds.toArray hF.guard,Result.andThen_ok,run_neq_struct,hF.flat.up (Nat.le_refl _) 10000 DC cs ds w hT hc hd h1 h2];rfl
end
def ia(zs:List Int):Value:=.agg (zs.map (Value.int .i64)).toArray
def ib(b:Nat)(e:TypeId)(zs:List Int):bT:=blk b e (zs.map (Value.int .i64))
def dK(zs:List Int)(off:Nat)(vs:List Int):List Int:=zs.take off++vs++zs.drop (off+vs.length)
def gi(zs:List Int)(i:Nat):Int:=zs.getD i 0
def sub(zs:List Int)(off n:Nat):List Int:=(zs.drop off).take n
theorem az(zs off n):(sub zs off n).length=min n (zs.length-off):=by simp[sub]
theorem gy(zs off n i)(h:i<n):gi (sub zs off n) i=gi zs (off+i):=by
 grind[gi,sub]
def au(n:Nat):List Int:=List.replicate n 0
theorem ag(n):(au n).length=n:=by simp[au]
theorem aY(zs vs off):(dK zs off vs).length=min off zs.length+vs.length+(zs.length- (off+vs.length)):=by grind[dK]
theorem LJ(zs):(ia zs).cells=(zs.map (Value.int .i64)).toArray:=rfl
theorem wD(zs off vs):splice (zs.map (Value.int .i64)) off (vs.map (Value.int .i64))=(dK zs off vs).map (Value.int .i64):=by
 simp_all[splice,dK]
theorem acb(zs off v)(h:off<zs.length):dK zs off [v]=zs.set off v:=by
 simp_all[List.set_eq_take_append_cons_drop,dK]
theorem jB(zs vs)(h:vs.length=zs.length):dK zs 0 vs=vs:=by simp[dK,h]
theorem LK(vs:List Int):∀u∈vs.map (Value.int .i64),u.oneCell'=true:=by
 intro u hu;obtain⟨z,_,rfl⟩:=List.mem_map.1 hu;rfl
section
variable {P:Program}{ops:Array Oper}{Q:Exit->Act->World->Prop}{a:Act}{rest:List Oper}{T:List Nat}{w0 w:World}{m m':List bT}{dst:Option Tmp}{ty:TypeId}{pos:String}{af:Array Edge}
theorem Dw{x}{t n b off:Nat}{e zs}(hI:Inv T w0 w m)(hx:a.eval x=.pointer (some ⟨b,off,none⟩))(hm:ib b e zs∈m)(hT:gm P t n)(hl:off+n<=zs.length)(k:wpList P ops Q rest (a.put dst (ia (sub zs off n))) w):wpList P ops Q (⟨dst,.load t x,ty,pos,af,none⟩::rest) a w:=by
 refine dh hI hx hm hT (by grind) ?_;rw[<-List.map_drop,<-List.map_take];exact k
theorem Dx{x}{t n b:Nat}{e zs}(hI:Inv T w0 w m)(hx:a.eval x=.pointer (some ⟨b,0,none⟩))(hm:ib b e zs∈m)(hT:gm P t n)(hl:zs.length=n)(k:wpList P ops Q rest (a.put dst (ia zs)) w):wpList P ops Q (⟨dst,.load t x,ty,pos,af,none⟩::rest) a w:=by
 grind[Dw,sub]
theorem vO{x y}{t n b off:Nat}{e zs vs}(hI:Inv T w0 w m)(hx:a.eval x=.pointer (some ⟨b,off,none⟩))(hv:a.eval y=ia vs)(hu:aU (ib b e zs) (ib b e (dK zs off vs)) m m')(hT:gm P t n)(hl:vs.length=n)(hoff:off+n<=zs.length)(k:∀w',Inv T w0 w' m'->wpList P ops Q rest (a.put dst undef) w'):wpList P ops Q (⟨dst,.store t x y,ty,pos,af,none⟩::rest) a w:=
 aR hI hx (vs:=vs.map (Value.int .i64)) (by rw[hv];rfl) (by rw[wD];exact hu) hT.size (by grind) (by grind) (LK vs) k
theorem vP{x y}{t n b:Nat}{e zs vs}(hI:Inv T w0 w m)(hx:a.eval x=.pointer (some ⟨b,0,none⟩))(hv:a.eval y=ia vs)(hu:aU (ib b e zs) (ib b e vs) m m')(hT:gm P t n)(hl:vs.length=n)(hoff:zs.length=n)(k:∀w',Inv T w0 w' m'->wpList P ops Q rest (a.put dst undef) w'):wpList P ops Q (⟨dst,.store t x y,ty,pos,af,none⟩::rest) a w:=
 vO hI hx hv (by rw[jB zs vs OM];exact hu) hT hl OM k
theorem Cz{x y}{t b off:Nat}{e zs v}(hI:Inv T w0 w m)(hx:a.eval x=.pointer (some ⟨b,off,none⟩))(hv:a.eval y=.int .i64 v)(hu:aU (ib b e zs) (ib b e (zs.set off v)) m m')(hT:iY P t)(hoff:off<zs.length)(k:∀w',Inv T w0 w' m'->wpList P ops Q rest (a.put dst undef) w'):wpList P ops Q (⟨dst,.store t x y,ty,pos,af,none⟩::rest) a w:=
 aR hI hx (vs:=[Value.int .i64 v]) (by rw[hv];rfl) (by rw[<-List.map_singleton,wD,acb zs off v hoff];exact hu) hT.size (by rfl) (by grind) (by simp[Value.oneCell']) k
theorem iZ{x y}{t b off:Nat}{e cs v}(hI:Inv T w0 w m)(hx:a.eval x=.pointer (some ⟨b,off,none⟩))(hv:a.eval y=v)(h1:v.oneCell'=true)(hc:v.cells=#[v])(hu:aU (blk b e cs) (blk b e (cs.set off v)) m m')(hT:iY P t)(hoff:off<cs.length)(k:∀w',Inv T w0 w' m'->wpList P ops Q rest (a.put dst undef) w'):wpList P ops Q (⟨dst,.store t x y,ty,pos,af,none⟩::rest) a w:=
 aR hI hx (vs:=[v]) (by grind) (by
  have:splice cs off [v]=cs.set off v:=by
   simp_all[List.set_eq_take_append_cons_drop,splice]
  rw[this];exact hu) hT.size (by rfl) OM (by grind) k
theorem GR{x t zs}(hI:Inv T w0 w m)(hv:a.eval x=ia zs)(k:∀b w',Inv T w0 w' (ib b t zs::m)->wpList P ops Q rest (a.put dst (.pointer (some ⟨b,0,none⟩))) w'):wpList P ops Q (⟨dst,.box t x,ty,pos,af,none⟩::rest) a w:=
 bX hI (cs:=zs.map (Value.int .i64)) (by rw[hv];rfl) k
def nK(P:Program)(t n:Nat):Prop:=(P.info? t).map (·.zero)=some (some (ia (au n)))
theorem CB{t n}(hI:Inv T w0 w m)(hz:nK P t n)(k:∀b w',Inv T w0 w' (ib b t (au n)::m)->wpList P ops Q rest (a.put dst (.pointer (some ⟨b,0,none⟩))) w'):wpList P ops Q (⟨dst,.alloc t,ty,pos,af,none⟩::rest) a w:=
 aN hI hz rfl k
theorem LP(zs ws:List Int):eqv (zs.map (Value.int .i64)) (ws.map (Value.int .i64))=decide (zs=ws):=by
 unfold eqv;have:intOf∘(Value.int .i64)=id:=by rfl
 simp[this]
theorem zN(zs:List Int):∀v∈zs.map (Value.int .i64),LF v:=by
 intro v hv;obtain⟨z,_,rfl⟩:=List.mem_map.1 hv;exact⟨z,rfl⟩
theorem zO{x y}{t t' n:Nat}{zs ws}(hx:a.eval x=ia zs)(hy:a.eval y=ia ws)(hT:gm P t n)(hF:oW P t n)(h1:zs.length=n)(h2:ws.length=n)(k:wpList P ops Q rest (a.put dst (.bool (decide (zs=ws)))) w):wpList P ops Q (⟨dst,.binOp .eql t x y t',ty,pos,af,none⟩::rest) a w:=
 OZ hx hy hT hF (zN _) (zN _) (by grind) (by grind) (by grind[LP])
theorem kv{x y}{t t' n:Nat}{zs ws}(hx:a.eval x=ia zs)(hy:a.eval y=ia ws)(hT:gm P t n)(hF:oW P t n)(h1:zs.length=n)(h2:ws.length=n)(k:wpList P ops Q rest (a.put dst (.bool (!decide (zs=ws)))) w):wpList P ops Q (⟨dst,.binOp .neq t x y t',ty,pos,af,none⟩::rest) a w:=
 O0 hx hy hT hF (zN _) (zN _) (by grind) (by grind) (by grind[LP])
structure LQ (P:Program) (t len e q:Nat):Prop where
 und:P.underlying t=some (.array len e)
 size:(P.info? e).map (·.size)=some q
theorem zP{e q off:Nat}{cs:List Value}(hT:gm P e q)(w):(part e cs.toArray off).run P w=.ok (.agg ((cs.drop off).take q).toArray) w:=by
 unfold part;rw[Sem.run_bind,hT.isAgg,Result.andThen_ok];simp only[if_true];rw[Sem.run_bind,dX hT.2,Result.andThen_ok]
 simp_all
theorem uX{e off:Nat}{cs:List Value}{v}(hT:iY P e)(hv:cs[off]? =some v)(w):(part e cs.toArray off).run P w=.ok v w:=by
 unfold part
 simp_all[iY.isAgg]
theorem Bf{t len e q k}{i:Int}{cs}(hA:LQ P t len e q)(h0:0<=i)(h1:i<len)(w):(Instr.index t (.agg cs) (.int k i)).run P w=(part e cs (i.toNat*q)).run P w:=by
 have hc:0<=i∧i<len:=⟨h0,h1⟩;simp[Instr.index,asIntOf,run_underlying hA.und,hc,dX hA.size]
theorem CE{x y t len e q k0 i zs}(hx:a.eval x=ia zs)(hy:a.eval y=.int k0 i)(hA:LQ P t len e q)(hT:gm P e q)(h0:0<=i)(h1:i<len)(k:wpList P ops Q rest (a.put dst (ia (sub zs (i.toNat*q) q))) w):wpList P ops Q (⟨dst,.index t x y,ty,pos,af,none⟩::rest) a w:=by
 refine av ?_ k;unfold gu execOp;simp only[hx,hy,ia,Sem.run_bind,Bf hA h0 h1,zP hT,Result.andThen_ok,sub,List.map_drop,List.map_take];rfl
theorem vQ{x y t len e k0 i zs}(hx:a.eval x=ia zs)(hy:a.eval y=.int k0 i)(hA:LQ P t len e 1)(hT:iY P e)(h0:0<=i)(h1:i<len)(hl:zs.length=len)(k:wpList P ops Q rest (a.put dst (.int .i64 (gi zs i.toNat))) w):wpList P ops Q (⟨dst,.index t x y,ty,pos,af,none⟩::rest) a w:=by
 refine av ?_ k;unfold gu execOp;have hi:i.toNat<zs.length:=by omega
 have hv:(zs.map (Value.int .i64))[i.toNat*1]? =some (.int .i64 (gi zs i.toNat)):=by simp[hi,gi]
 simp only[hx,hy,ia,Sem.run_bind,Bf hA h0 h1,uX hT hv,Result.andThen_ok];rfl
theorem Dy(l:List Field)(h:∀f∈l,(P.info? f.type).isSome=true)(w):∃r,(l.mapM (λf=>do pure (f.offset,<-sizeOf f.type):Field->Sem (Nat×Nat))).run P w=.ok r w:=by
 induction l with
 |nil=>simp_all
 |cons f l ih=>
  obtain⟨r,hr⟩:=ih (λg hg=>h g (by simp[hg]));obtain⟨i,hi⟩:=Option.isSome_iff_exists.1 (h f SI)
  simp_all[dX]
def iH(P:Program)(t:TypeId):Prop:=(match P.underlying t with|some (.struct fs)=>fs.toList.all (λf=>(P.info? f.type).isSome) |some (.array _ e)=>(P.info? e).isSome |_=>false)=true
theorem uY{t z cs}(hz:(P.info? t).map (·.zero)=some (some z))(hc:z.cells=cs)(hK:iH P t)(w):(Instr.build t #[]).run P w=.ok (.agg cs) w:=by
 obtain⟨i,hi,hz'⟩:=Option.map_eq_some_iff.1 hz;have hzv:(zeroValue t).run P w=.ok z w:=by simp[zeroValue,typeInfo,hi,hz']
 unfold iH at hK;cases hu:P.underlying t with
 |none=>grind
 |some d=>
  rw[hu]at hK;cases d with
  |struct fs=>
   obtain⟨r,hr⟩:=Dy (P:=P) fs.toList (List.all_eq_true.1 hK) w;unfold Instr.build;simp only[Sem.run_bind,hzv,Result.andThen_ok,run_underlying hu];rw[<-Array.toArray_toList (xs:=fs),List.mapM_toArray];simp only[Sem.run_map,hr,Instr.fill]
   simp_all
  |array n e=>
   obtain⟨j,hj⟩:=Option.isSome_iff_exists.1 hK;unfold Instr.build;simp only[Sem.run_bind,hzv,Result.andThen_ok,run_underlying hu,dX (show(P.info? e).map (·.size)=some j.size by grind)];simp[Instr.fill,hc]
  |_=>cases hK
theorem Bg{t n}(hz:nK P t n)(hK:iH P t)(k:wpList P ops Q rest (a.put dst (ia (au n))) w):wpList P ops Q (⟨dst,.build t #[],ty,pos,af,none⟩::rest) a w:=by
 refine av ?_ k;unfold gu execOp;simp only[Array.map_empty,Sem.run_bind,uY hz (LJ (au n)) hK,Result.andThen_ok];rfl
theorem aH{fn:Func}{p u}{t n b:Nat}{e zs tmps}(hI:Inv T w0 w m)(h:fn.results=#[.cell p t,.tmp u])(hp:tmps.getD p undef=.pointer (some ⟨b,0,none⟩))(hm:ib b e zs∈m)(hT:gm P t n)(hl:zs.length=n):(results fn tmps).run P w=.ok (.tuple #[ia zs,tmps.getD u undef]) w:=
 qC hI h hp hm hT (by grind)
theorem dY{fn p}{t n b:Nat}{e zs tmps}(hI:Inv T w0 w m)(h:fn.results=#[.cell p t])(hp:tmps.getD p undef=.pointer (some ⟨b,0,none⟩))(hm:ib b e zs∈m)(hT:gm P t n)(hl:zs.length=n):(results fn tmps).run P w=.ok (ia zs) w:=
 Lx hI h hp hm hT (by grind)
end
section
variable {P:Program}{ops:Array Oper}{Q:Exit->Act->World->Prop}{a:Act}{rest:List Oper}{T:List Nat}{w0 w:World}{m m':List bT}{dst:Option Tmp}{ty:TypeId}{pos:String}{af:Array Edge}
def placeOf(P:Program)(f:Field):Nat×Nat:=(f.offset,((P.info? f.type).map (·.size)).getD 0)
theorem mZ(l:List Field)(h:∀f∈l,(P.info? f.type).isSome=true)(w):(l.mapM (λf=>do pure (f.offset,<-sizeOf f.type):Field->Sem (Nat×Nat))).run P w=.ok (l.map (placeOf P)) w:=by
 induction l with
 |nil=>rfl
 |cons f l ih=>
  obtain⟨i,hi⟩:=Option.isSome_iff_exists.1 (h f SI)
  simp_all[placeOf,dX]
theorem Dz{x y}{t t' n:Nat}{zs}(hx:a.eval x=ia zs)(hy:a.eval y=ia zs)(hT:gm P t n)(hF:oW P t n)(h1:zs.length=n)(k:wpList P ops Q rest (a.put dst (.bool true)) w):wpList P ops Q (⟨dst,.binOp .eql t x y t',ty,pos,af,none⟩::rest) a w:=
 zO hx hy hT hF h1 h1 (by grind)
theorem jW{x y}{t t' n:Nat}{zs}(hx:a.eval x=ia zs)(hy:a.eval y=ia zs)(hT:gm P t n)(hF:oW P t n)(h1:zs.length=n)(k:wpList P ops Q rest (a.put dst (.bool false)) w):wpList P ops Q (⟨dst,.binOp .neq t x y t',ty,pos,af,none⟩::rest) a w:=
 kv hx hy hT hF h1 h1 (by grind)
end
def ng(w:World)(b off:Nat)(vs:List Value):Prop:=∀j (h:j<vs.length),w.cell? ⟨b,off+j,none⟩=some vs[j]
def ru(w:World):List (World->Value->Prop)->List Value->Prop
 | [],[]=>True
 |p::ps,v::vs=>p w v∧ru w ps vs
 |_,_=>False
theorem ru.length{w}:∀ {ps vs},ru w ps vs->vs.length=ps.length
 | [],[],_=>rfl
 |_::_,_::_,h=>by simp[ru.length h.2]
theorem ru.append{w}:∀ {ps vs qs us},ru w ps vs->ru w qs us->ru w (ps++qs) (vs++us)
 | [],[],_,_,_,h=>h
 |_::_,_::_,_,_,h,h'=>⟨h.1,ru.append h.2 h'⟩
def O1(_:World)(v:Value):Prop:=∃z,v=iv z∧(Lit.int .i64 z).wf=true
def aiS(_:World)(v:Value):Prop:=∃b,v=.bool b
structure Ho (w:World) (a:Option Addr) (len c:Nat) (ps:List (World->Value->Prop)) (row:Nat->List Value):Prop where
 nil:a=none->len=0∧c=0
 le:len<=c
 reach:c<=140737488351232
 row:∀i,i<len->ru w ps (row i)∧∃b off,a=some ⟨b,off,none⟩∧ng w b (off+i*ps.length) (row i)
def O3(ps:List (World->Value->Prop))(w:World)(v:Value):Prop:=∃a len c row,v=.slice a len c∧Ho w a len c ps row
def pU8(_:World)(v:Value):Prop:=∃c:UInt8,v=.int .u8 (c.toNat:Int)
structure CR (P:Program) (t:TypeId) (ps:List (World->Value->Prop)):Prop where
 cells:P.cellsOf t=ps.length
 all:∀(H:Type) (enc:TypeId×Value->H) (w:World) (fuel:Nat) (cs:List Value) (x:DataW H×List MemPlace),DataW.trod enc P w 0 (λ_=>true) true fuel t cs=some x->(∀n∈x.1.weights P t,n<=reachBytes)->ru w ps cs
section
variable {P:Program}
theorem CR.int{t}(ht:P.underlying t=some (.int .i64))(hc:P.cellsOf t=1):CR P t [O1]:=
 ⟨hc,λH enc w fuel cs x h _=>by
  obtain⟨n,rfl,_,hw⟩:=DataW.trod_int ht h;exact⟨⟨n,rfl,hw⟩,trivial⟩⟩
theorem CR.u8{t}(ht:P.underlying t=some (.int .u8))(hc:P.cellsOf t=1):CR P t [pU8]:=
 ⟨hc,λH enc w fuel cs x h _=>by
  obtain⟨n,rfl,_,hw⟩:=DataW.trod_int ht h;have:0<=n∧n<=255:=by simpa[Lit.wf,IntKind.min,IntKind.max,IntKind.bits,IntKind.signed]using hw
  exact⟨⟨UInt8.ofNat n.toNat,by simp;omega⟩,trivial⟩⟩
theorem CR.bool{t}(ht:P.underlying t=some .bool)(hc:P.cellsOf t=1):CR P t [aiS]:=
 ⟨hc,λH enc w fuel cs x h _=>by
  obtain⟨n,rfl,_⟩:=DataW.trod_bool ht h;exact⟨⟨n,rfl⟩,trivial⟩⟩
def pW(P:Program):List (TypeId×Nat)->Nat->List (World->Value->Prop)->Prop
 | [],_,ps=>ps=[]
 |x::l,o,ps=>x.2=o∧∃qs rs,CR P x.1 qs∧pW P l (o+qs.length) rs∧ps=qs++rs
theorem pW.nil{o}:pW P [] o []:=rfl
theorem pW.cons{t o:Nat}{l qs rs}(h:CR P t qs)(hr:pW P l (o+qs.length) rs):pW P ((t,o)::l) o (qs++rs):=⟨rfl,qs,rs,h,hr,rfl⟩
theorem JD{H ts}{ds:List (DataW H)}(h:∀n∈DataW.weightsEach P ts ds,n<=reachBytes){j:Nat}{t d}(ht:ts[j]? =some t)(hd:ds[j]? =some d):∀n∈d.weights P t,n<=reachBytes:=
 λn hn=>h n (DataW.weights_mem_each ht hd n hn)
theorem wE{H e}:∀ {ds:List (DataW H)},(∀n∈DataW.weightsAll P e ds,n<=reachBytes)->∀d∈ds,∀n∈d.weights P e,n<=reachBytes
 |d0::ds,h,d,hd,n,hn=>by
  simp only[DataW.weightsAll,List.mem_append]at h;rcases List.mem_cons.1 hd with rfl|hd
  ·grind
  ·exact wE (λn hn=>h n (.inr hn)) d hd n hn
theorem zQ{H enc w n}{cs:List Value}:∀l o ps (xs:List (DataW H×List MemPlace)),pW P l o ps->o+ps.length=cs.length->xs.length=l.length->
  (∀(i:Nat) f,l[i]? =some f->DataW.trod enc P w 0 (λ_=>true) true n f.1 ((cs.drop f.2).take (P.cellsOf f.1))=xs[i]?)->
  (∀(i:Nat) f x,l[i]? =some f->xs[i]? =some x->∀k∈x.1.weights P f.1,k<=reachBytes)->ru w ps (cs.drop o)
 | [],o,ps,xs,h,hl,_,_,_=>by
  subst h;rw[List.drop_eq_nil_of_le (by grind)]
  trivial
 |f::l,o,ps,xs,⟨ho,qs,rs,hq,hr,hps⟩,hl,hx,hf,hw=>by
  subst hps;cases xs with
  |nil=>grind
  |cons x xs=>
   have h0:=hf 0 f rfl;have h1:=hq.all H enc w n _ _ h0 (hw 0 f x rfl rfl);rw[ho,hq.cells]at h1;simp only[List.length_append]at hl;have h2:=zQ (cs:=cs) l (o+qs.length) rs xs hr OM (by grind) (λi g hg=>by simpa using hf (i+1) g (by grind)) (λi g y hg hy=>hw (i+1) g y (by grind) (by grind));have e:cs.drop o=(cs.drop o).take qs.length++cs.drop (o+qs.length):=by rw[<-List.drop_drop,List.take_append_drop]
   grind[ru.append]
def fieldAt(f:Field):TypeId×Nat:=(f.type,f.offset)
theorem CR.struct{t l ps}(ht:P.underlying t=some (.struct (P.fieldsOf t)))(hl:(P.fieldsOf t).toList.map fieldAt=l)(hc:P.cellsOf t=ps.length)(h:pW P l 0 ps):CR P t ps:=
 ⟨hc,λH enc w fuel cs x hx hw=>by
  obtain⟨xs,n,_,hxe,hlen,hxl,hf⟩:=DataW.trod_struct ht hx;have hw':∀n∈DataW.weightsEach P ((P.fieldsOf t).toList.map (·.type)) (xs.map (·.1)),n<=reachBytes:=by
   rw[hxe]at hw;simpa[DataW.weights,ht]using hw
  have:=zQ (enc:=enc) (w:=w) (n:=n) (cs:=cs) l 0 ps xs h OM (by grind)
   (λi g hg=>by
    rw[<-hl,List.getElem?_map]at hg;obtain⟨f,hf',rfl⟩:=Option.map_eq_some_iff.1 hg;exact hf i f (by grind))
   (λi g x hg hx k hk=>by
    rw[<-hl,List.getElem?_map]at hg;obtain⟨f,hf',rfl⟩:=Option.map_eq_some_iff.1 hg;exact JD hw' (j:=i) (t:=f.type) (d:=x.1) (by grind) (by simp[hx]) k hk)
  grind⟩
theorem CR.array{t e k:Nat}{ps}(ht:P.underlying t=some (.array k e))(he:CR P e ps)(hc:P.cellsOf t=k*ps.length):CR P t (List.replicate k ps).flatten:=
 ⟨by simp[hc],λH enc w fuel cs x hx hw=>by
  obtain⟨xs,n,_,hxe,hlen,hxl,hf⟩:=DataW.trod_array ht hx;have hw':∀n∈DataW.weightsAll P e (xs.map (·.1)),n<=reachBytes:=by
   rw[hxe]at hw;simpa[DataW.weights,ht]using hw
  have key:∀(m i:Nat),i+m=k->ru w (List.replicate m ps).flatten (cs.drop (i*ps.length)):=by
   intro m
   induction m with
   |zero=>
    intro i hi;rw[List.drop_eq_nil_of_le (by grind)]
    trivial
   |succ m ih=>
    intro i hi;have h0:=hf i OM;have hxi:xs[i]? =some (xs[i]'OM):=by grind
    rw[hxi,he.cells]at h0;have h1:=he.all H enc w n _ _ h0 (wE hw' _ (List.mem_map.2 ⟨xs[i]'OM,List.getElem_mem _,rfl⟩));have h2:=ih (i+1) OM
    grind[Nat.succ_mul,List.drop_drop,List.take_append_drop,ru.append]
  simpa using key k 0 OM⟩
theorem CR.slice{t e by_:Nat}{ps}(ht:P.underlying t=some (.slice e))(he:CR P e ps)(hc:P.cellsOf t=1)(hpos:0<ps.length)(hby:P.bytesOf e=by_)(hb:0<by_):CR P t [O3 ps]:=
 ⟨hc,λH enc w fuel cs x hx hw=>by
  rcases DataW.trod_slice ht hx with⟨rfl,_⟩ | ⟨a,len,cap,elems,rest,n,_,rfl,hxe,_,hl,hm,hel,hi,hsp,_⟩
  ·exact⟨⟨none,0,0,λ_=>[],rfl,λ_=>⟨rfl,rfl⟩,Nat.le_refl _,by omega,λi hi=>by omega⟩,trivial⟩
  ·rw[hxe]at hw
   simp only[DataW.weights,ht,List.mem_cons,List.mem_append,List.length_map]at hw;have hsz:(elems.length+rest.length)*P.bytesOf e<=reachBytes:=hw _ (.inl rfl);have hrest:=(hsp rfl).1;have hcap:cap<=140737488351232:=by
    rw[hel,hrest,hby]at hsz;have:cap*1<=(len+(cap-len))*by_:=Nat.mul_le_mul OM hb;simp only[reachBytes]at hsz;omega
   have elem:∀i,i<len->∃r:List Value,ru w ps r∧r.length=ps.length∧∀j,j<ps.length->w.cell? ((a.add (i*ps.length)).add j)=r[j]? :=by
    intro i hil;have h0:=hi i hil;have hxi:elems[i]? =some (elems[i]'OM):=by grind
    rw[hxi,he.cells]at h0;obtain⟨r,hr,ht'⟩:=Option.bind_eq_some_iff.1 h0;have hall:=he.all H enc w n r _ ht' (wE (λn hn=>hw n (.inr (.inl hn))) _ (List.mem_map.2 ⟨elems[i]'OM,List.getElem_mem _,rfl⟩));obtain⟨_,hrl,hat⟩:=World.cells?_some hr
    grind
   have each:∀i,∃r:List Value,i<len->ru w ps r∧∃b off,some a=some ⟨b,off,none⟩∧ng w b (off+i*ps.length) r:=by
    intro i;by_cases hil:i<len
    ·obtain⟨r,hall,hrl,hat⟩:=elem i hil
     refine⟨r,λ_=>⟨hall,?_⟩⟩;obtain⟨r0,_,amg,akM⟩:=elem 0 OM;have hc0:=akM 0 hpos;have hr0:r0[0]? =some (r0[0]'OM):=by grind
     rw[hr0]at hc0;have hs0:=World.cell?_spot hc0;obtain⟨b,off,spot⟩:=a;have hspot:spot=none:=by simpa[Addr.add]using hs0
     subst hspot;refine⟨b,off,rfl,λj hj=>?_⟩
     grind[kP]
    ·exact⟨[],λh=>absurd h hil⟩
   obtain⟨row,hrow⟩:=Classical.axiomOfChoice each;exact⟨⟨some a,len,cap,row,rfl,λh=>(nomatch h),hl,hcap,hrow⟩,trivial⟩⟩
theorem JE{H}{enc:TypeId×Value->H}{W t e v d p base ps}(hR:CR P t [O3 ps])(ht:P.underlying t=some (.slice e))(hok:Value.okWide P W .any base t v)(h:DataW.Trod enc P W 0 (λ_=>true) true t v d p)(hw:∀n∈d.weights P t,n<=reachBytes):∃a:Option Addr×Nat×Nat×(Nat->List Value),v=.slice a.1 a.2.1 a.2.2.1∧Ho W a.1 a.2.1 a.2.2.1 ps a.2.2.2:=by
 obtain⟨a,len,cap,rfl⟩:=Go.WideShapes.okWide_slice ht hok;obtain⟨fuel,hf⟩:=h;obtain⟨⟨a',len',c',row,hv,hs⟩,_⟩:=hR.all H enc W fuel _ _ hf hw;cases hv;exact⟨⟨a,len,cap,row⟩,rfl,hs⟩
theorem ru.ints{w}:∀ {n vs},ru w (List.replicate n O1) vs->∃zs:List Int,vs=zs.map iv∧zs.length=n∧∀z∈zs,(Lit.int .i64 z).wf=true
 |0,[],_=>⟨[],rfl,rfl,by simp⟩
 |n+1,v::vs,h=>by
  obtain⟨⟨z,rfl,hz⟩,h2⟩:=h;obtain⟨zs,rfl,hl,hw⟩:=ru.ints h2;exact⟨z::zs,rfl,by simp[hl],by grind⟩
theorem ng.later{T w0 w m b off vs}(hc:ng w0 b off vs)(hI:Inv T w0 w m)(hb:b∉T):ng w b off vs:=by
 intro j hj;have h:=hc j hj;have hlt:=World.block_lt_of_cell? _ _ h
 grind[Go.World.cell?_of_block,Inv.old]
theorem vR{w b off vs}(hc:ng w b off vs):∀n i acc,i+n=vs.length->(loadCellsFrom ⟨b,off,none⟩ i n acc).run P w=.ok (acc++(vs.drop i).toArray) w
 |0,i,acc,h=>by
  rw[List.drop_eq_nil_of_le OM];simp[loadCellsFrom]
 |n+1,i,acc,h=>by
  have hi:i<vs.length:=by omega
  have hl:(load ((⟨b,off,none⟩:Addr).add i)).run P w=.ok vs[i] w:=by
   rw[kP,load,Sem.run,hc i hi];rfl
  rw[loadCellsFrom,Sem.run_bind,hl,Result.andThen_ok,vR hc n (i+1) _ OM,List.drop_eq_getElem_cons hi];simp
variable {ops:Array Oper}{Q:Exit->Act->World->Prop}{a:Act}{rest:List Oper}{T:List Nat}{w0 w:World}{m:List bT}{dst:Option Tmp}{ty:TypeId}{pos:String}{af:Array Edge}
theorem qD{x}{t b off:Nat}{vs}(hI:Inv T w0 w m)(hx:a.eval x=.pointer (some ⟨b,off,none⟩))(hc:ng w0 b off vs)(hb:b∉T)(hT:gm P t vs.length)(k:wpList P ops Q rest (a.put dst (.agg vs.toArray)) w):wpList P ops Q (⟨dst,.load t x,ty,pos,af,none⟩::rest) a w:=by
 refine av ?_ k;have hc':=hc.later hI hb;unfold gu execOp;simp only[hx,Instr.loadAt,Instr.sureAddr,Sem.run_bind,Sem.run_pure,Result.andThen_ok,loadVar,hT.isAgg,if_true,dX hT.size,loadCells,vR hc' vs.length 0 #[] OM];simp
end
section
variable {P:Program}{ops:Array Oper}{md:Region.Mode}{Q:Exit->Act->World->Prop}
def Hq(K:Act->World->Prop):Exit->Act->World->Prop:=λe a w=>e=.normal∧K a w
theorem bY{K a w}(h:K a w):Hq K .normal a w:=⟨rfl,h⟩
theorem qf{o a w K}(hw:Region.wanted o (yielded ops a.tmps)=true)(h:wpList P ops (Hq K) [o] a w):o.wp P a w K Q:=by
 unfold wpList at h;rw[if_pos hw]at h;rcases h with h| ⟨_,a',w',h⟩
 ·unfold Oper.wp at h|-
  generalize(execOp a.eval o).run P w=r at h;have one:∀a w,wpList P ops (Hq K) [] a w->K a w:=λa w hh=>hh.2
  cases r with
  |ok n w'=>
   cases n<;>simp only[Oper.upon]at h|-
   case value u=>grind
   case skip=>grind
   case defer d=>grind
   case enter f args=>
    refine h.mono λe w'' hh=>?_
    cases e with
    |returned u=>grind
    |panicked c=>cases hh.1
    |outgrown=>obtain⟨_,_,hh⟩:=hh;cases hh.1
   grind[Go.Rows.mono]
  |halt x w'=>cases x<;>simp only[Oper.upon]at h|-<;>(cases h.1)
 ·cases h.1
theorem Xb{i o fuel}{listed:Array Bool}{a w}(ho:ops[i]? =some o)(hw:Region.wanted o (yielded ops a.tmps)=true)(h:wpList P ops (Hq (wpAny P md ops Q fuel (listed.setIfInBounds i true))) [o] a w):wpOp P ops Q i (wpAny P md ops Q fuel (listed.setIfInBounds i true)) a w:=by
 unfold wpOp
 grind[qf]
theorem Ht{l:List Oper}{i o fuel}{listed:Array Bool}{a w}(ho:l[i]? =some o)(hw:Region.wanted o (yielded l.toArray a.tmps)=true)(h:wpList P l.toArray (Hq (wpAny P md l.toArray Q fuel (listed.setIfInBounds i true))) [o] a w):wpOp P l.toArray Q i (wpAny P md l.toArray Q fuel (listed.setIfInBounds i true)) a w:=
 Xb (by grind) hw h
theorem Sa{i fuel listed a w}(hr:Region.ready md ops listed=[i])(h:wpOp P ops Q i (wpAny P md ops Q fuel (listed.setIfInBounds i true)) a w):wpAny P md ops Q (fuel+1) listed a w:=
 wpAny_all hr SI (λj hj=>by grind)
end
section
variable {P:Program}{ops:Array Oper}{md:Region.Mode}{Q:Exit->Act->World->Prop}{C:World->Prop}
def o_(C:World->Prop)(P:Program)(md:Region.Mode)(ops:Array Oper)(Q:Exit->Act->World->Prop):Nat->Array Bool->Act->World->Prop
 |0,listed,a,w=>C w∧Region.ready md ops listed=[]∧Q .normal a w
 |fuel+1,listed,a,w=>C w∧(Region.ready md ops listed=[]->Q .normal a w)∧∀i∈Region.ready md ops listed,wpOp P ops Q i (o_ C P md ops Q fuel (listed.setIfInBounds i true)) a w
theorem o_.cls:∀ {fuel listed a w},o_ C P md ops Q fuel listed a w->C w
 |0,_,_,_,h=>h.1
 |_+1,_,_,_,h=>h.1
theorem o_.any:∀ {fuel listed a w},o_ C P md ops Q fuel listed a w->wpAny P md ops Q fuel listed a w
 |0,_,_,_,h=>h.2
 |_+1,_,_,_,h=>⟨h.2.1,λi hi=>wpOp_mono (λ_ _ hh=>hh.any) (h.2.2 i hi)⟩
def yM(C:World->Prop)(P:Program)(ops:Array Oper)(o:Oper)(v:Value)(a:Act):Prop:=
 Region.wanted o (yielded ops a.tmps)=true∧∀w,C w->(execOp a.eval o).run P w=.ok (.value v) w
theorem yM.op{i o v a w K}(hi:ops[i]? =some o)(hy:yM C P ops o v a)(hc:C w)(h:K (a.put o.dst v) w):wpOp P ops Q i K a w:=by
 unfold wpOp;rw[hi];simp only;rw[if_pos hy.1]
 left
 unfold Oper.wp;rw[hy.2 w hc];exact h
theorem yM.same{o v a a'}(hy:yM C P ops o v a)(he:execOp a'.eval o=execOp a.eval o)(hw:Region.wanted o (yielded ops a'.tmps)=Region.wanted o (yielded ops a.tmps)):yM C P ops o v a':=
 ⟨hw.trans hy.1,λw hc=>by rw[he];exact hy.2 w hc⟩
theorem yM.O4{j oi oj v}(hj:ops[j]? =some oj)(hap:oi.apart ops oj=true)(hsi:∀cs b,oi.op≠ .select cs b)(hsj:∀cs b,oj.op≠ .select cs b)(hQ:∀c a w,Q (.panic c) (a.put oi.dst v) w->Q (.panic c) a w){K a w}(hy:yM C P ops oi v a)(h:wpOp P ops Q j K (a.put oi.dst v) w):
  wpOp P ops Q j (λa' w'=>yM C P ops oi v a'∧K (a'.put oi.dst v) w') a w:=by
 obtain⟨h1,h2,h3⟩:=Oper.apart_spec hap;have stay:∀u,yM C P ops oi v (a.put oj.dst u):=λu=>hy.same (execOp_put oi hsi a oj.dst u h3) (wanted_put oi a oj.dst u h3)
 have swap:∀u w',K ((a.put oi.dst v).put oj.dst u) w'->yM C P ops oi v (a.put oj.dst u)∧K ((a.put oj.dst u).put oi.dst v) w':=λu w' hk=>⟨stay u,by grind[Go.Act.put_comm]⟩
 unfold wpOp at h|-;rw[hj]at h|-;simp only at h|-;rw[wanted_put oj a oi.dst v h1]at h;by_cases hw:Region.wanted oj (yielded ops a.tmps)=true
 ·rw[if_pos hw]at h|-
  rcases h with h| ⟨ha,hl⟩
  ·left
   unfold Oper.wp at h|-;rw[execOp_put oj hsj a oi.dst v h1]at h;generalize(execOp a.eval oj).run P w=r at h|-;cases r with
   |ok n w'=>
    cases n<;>simp only[Oper.upon]at h|-
    case defer d=>
     have hy':yM C P ops oi v {a with defers:=d::a.defers}:=hy.same rfl rfl;refine⟨hy'.same (execOp_put oi hsi _ oj.dst undef h3) (wanted_put oi _ oj.dst undef h3),?_⟩
     grind[Go.Act.put_comm,Go.Act.put_defers]
    all_goals grind[Go.Calls.mono,Go.Rows.mono]
   |halt x w'=>
    cases x<;>simp only[Oper.upon]at h|-
    grind
  ·right
   refine⟨?_,hl⟩;unfold Oper.asks at ha|-;rw[execOp_put oj hsj a oi.dst v h1]at ha;exact ha
 grind
theorem O5{i oi v}(hi:ops[i]? =some oi)(hsel:∀(j:Nat) o cs b,ops[j]? =some o->o.op≠ .select cs b)(hQ:∀c a w,Q (.panic c) (a.put oi.dst v) w->Q (.panic c) a w):
  ∀fuel listed a w,
   (∀j oj,ops[j]? =some oj->j≠i->listed.getD j true=false->(∀e∈oj.after,Region.binds md e=true->e.on≠i)->oi.apart ops oj=true)->
   i∈Region.ready md ops listed->yM C P ops oi v a->o_ C P md ops Q fuel (listed.setIfInBounds i true) (a.put oi.dst v) w->o_ C P md ops Q (fuel+1) listed a w:=by
 intro fuel
 induction fuel with
 |zero=>
  intro listed a w _ hr hy H;refine⟨H.cls,λh=>(by grind),λj hj=>?_⟩;by_cases hji:j=i
  ·grind[yM.op,o_.cls]
  ·have h0:=ready_mono hj hji
   rw[H.2.1]at h0;cases h0
 |succ fuel ih=>
  intro listed a w hfree hr hy H;refine⟨H.cls,λh=>(by grind),λj hj=>?_⟩;by_cases hji:j=i
  ·grind[yM.op,o_.cls]
  ·obtain⟨hjun,oj,hoj,hall⟩:=mem_ready.1 hj
   have hnot:∀e∈oj.after,Region.binds md e=true->e.on≠i:=λe he hb heq=>by
    grind[Go.mem_ready]
   have h2:=hy.O4 hoj (hfree j oj hoj hji hjun hnot) (λcs b=>hsel i oi cs b hi) (λcs b=>hsel j oj cs b hoj) hQ (H.2.2 j (ready_mono hj hji));refine wpOp_mono (λa' w' h3=>ih (listed.setIfInBounds j true) a' w' (λk ok hk hki hun hno=>hfree k ok hk hki ?_ hno) (ready_mono hr (Ne.symm hji)) h3.1 ?_) h2
   ·by_cases hjk:j=k
    ·grind
    simp_all
   grind[Array.setIfInBounds_comm]
theorem aO{i oi v fuel listed a w}(hi:ops[i]? =some oi)(hs:Region.noSelect ops=true)(hf:Region.free md ops listed i=true)(hr:(Region.ready md ops listed).contains i=true)(hQ:∀c a w,Q (.panic c) (a.put oi.dst v) w->Q (.panic c) a w)(hy:yM C P ops oi v a)(h:o_ C P md ops Q fuel (listed.setIfInBounds i true) (a.put oi.dst v) w):o_ C P md ops Q (fuel+1) listed a w:=
 O5 hi (Region.noSelect_spec hs) hQ fuel listed a w (Region.free_spec hi hf) (by grind) hy h
theorem eH{i fuel listed a w}(hr:Region.ready md ops listed=[i])(hc:C w)(h:wpOp P ops Q i (o_ C P md ops Q fuel (listed.setIfInBounds i true)) a w):o_ C P md ops Q (fuel+1) listed a w:=
 ⟨hc,λh0=>absurd (h0.symm.trans hr) SI,λj hj=>by grind⟩
theorem DD{i j fuel listed a w}(hr:Region.ready md ops listed=[i,j])(hc:C w)(h:wpOp P ops Q i (o_ C P md ops Q fuel (listed.setIfInBounds i true)) a w)(h':wpOp P ops Q j (o_ C P md ops Q fuel (listed.setIfInBounds j true)) a w):o_ C P md ops Q (fuel+1) listed a w:=
 ⟨hc,λh0=>absurd (h0.symm.trans hr) SI,λk hk=>by
  grind⟩
theorem qW{listed a w}(hr:Region.ready md ops listed=[])(hc:C w)(h:Q .normal a w):∀fuel,o_ C P md ops Q fuel listed a w
 |0=>⟨hc,hr,h⟩
 |_+1=>⟨hc,λ_=>h,by grind⟩
theorem bG{l:List Oper}{i o fuel}{listed:Array Bool}{a w}(ho:l[i]? =some o)(hw:Region.wanted o (yielded l.toArray a.tmps)=true)(h:wpList P l.toArray (Hq (o_ C P md l.toArray Q fuel (listed.setIfInBounds i true))) [o] a w):wpOp P l.toArray Q i (o_ C P md l.toArray Q fuel (listed.setIfInBounds i true)) a w:=by
 unfold wpOp
 grind[qf]
theorem nL{id a w}(C)(hm:P.follows .mixedOrders=true)(h:o_ C P .any ops Q ops.size (Array.replicate ops.size false) a w.drew):(Code.region id ops true).wp P Q a w:=
 wp_region_any hm h.any
end
def Db:Op->Bool
 | .alloc .. | .box .. | .build .. | .buildSlice .. | .load .. | .store .. | .binOp .. | .unOp .. | .convert .. | .sliceToArrayPointer .. | .makeInterface .. | .makeFunc .. | .makeMap .. | .makeChan .. | .makeSlice .. | .slice .. | .fieldAddr ..
 | .field .. | .indexAddr .. | .index .. | .lookup .. | .mapUpdate .. | .insert .. | .mapEntry .. | .entryStore .. | .range .. | .typeAssert .. | .extract .. | .move .. | .assign .. | .pick .. =>true
 | .call c=>(match c.callee with| .builtin .append | .builtin .len | .builtin .cap | .builtin .copy | .builtin .min | .builtin .max | .builtin .delete=>true|_=>false)
 |_=>false
section
variable {P:Program}{ops:Array Oper}
theorem JF{s w w' n}(h:(do pure (Next.value (<-s)):Sem Next).run P w=.ok n w'):∃v,n=.value v:=by
 rw[Sem.run_bind]at h;cases hs:s.run P w with
 |ok v w1=>grind[Go.Result.andThen_ok,Go.Sem.run_pure]
 |halt x w1=>simp_all
theorem JG{s w w' n}(h:(do s;pure Next.skip:Sem Next).run P w=.ok n w'):n=.skip:=by
 cases hs:s.run P w with
 |ok v w1=>simp_all
 |halt x w1=>simp_all
theorem O6{o ρ w w' n}(hp:Db o.op=true)(h:(execOp ρ o).run P w=.ok n w'):(∃v,n=.value v)∨n=.skip:=by
 obtain⟨dst,op,ty,pos,af,g⟩:=o;cases op<;>simp only[Db,Bool.false_eq_true]at hp<;>simp only[execOp]at h
 case move=>grind[Go.Sem.run_pure]
 case assign=>grind[Go.Sem.run_pure]
 case store=>grind[JG]
 case mapUpdate=>grind[JG]
 case insert=>grind[JG]
 case entryStore=>grind[JG]
 case pick=>
  rw[Sem.run_bind]at h
  rename_i c x y
  cases hb:(asBool (ρ c)).run P w with
  |ok v w1=>grind[Go.Result.andThen_ok,Go.Sem.run_pure]
  |halt x w1=>simp_all
 case call c=>
  obtain⟨callee,args,ats⟩:=c;cases callee with
  |builtin b=>
   cases b<;>simp only[Bool.false_eq_true]at hp<;>exact .inl (JF h)
  |invoke=>grind
  |value=>grind
 all_goals grind[JF]
variable {S:List Nat}{E:World->Prop}{F:(World->Prop)->Act->Prop}{rest:List Oper}{k:Nat}{a:Act}{dst:Option Tmp}{op:Op}{ty:TypeId}{pos:String}{af:Array Edge}{g:Option (Nat×Bool)}{w:World}
theorem BU{K Q}(h:Oper.wp P ⟨dst,op,ty,pos,af,none⟩ a w K Q):Oper.wp P ⟨dst,op,ty,pos,af,g⟩ a w K Q:=by
 unfold Oper.wp at h|-;have e:execOp a.eval ⟨dst,op,ty,pos,af,g⟩=execOp a.eval ⟨dst,op,ty,pos,af,none⟩:=rfl;rw[e];generalize(execOp a.eval ⟨dst,op,ty,pos,af,none⟩).run P w=r at h|-;cases r with
 |ok n w'=>cases n<;>exact h
 |halt x w'=>cases x<;>exact h
theorem acd{Q}(hp:Db op=true)(hQ:∀e a w,Q e a w->e=.normal)(h:wpList P ops Q [⟨dst,op,ty,pos,af,none⟩] a w):
  ∃v w',Q .normal (a.put dst v) w'∧∀C',C' w'->Oper.wp P ⟨dst,op,ty,pos,af,g⟩ a w (ym (a.put dst v) C') (λ_ _ _=>False):=by
 rcases h with h| ⟨_,_,_,h⟩
 ·unfold Oper.wp at h
  have hpn:∀n w',(execOp a.eval ⟨dst,op,ty,pos,af,none⟩).run P w=.ok n w'->(∃v,n=.value v)∨n=.skip:=λn w' hr=>O6 hp hr
  cases hr:(execOp a.eval ⟨dst,op,ty,pos,af,none⟩).run P w with
  |ok n w'=>
   rcases hpn n w' hr with⟨v,rfl⟩ |rfl
   ·rw[hr]at h
    refine⟨v,w',h,λC' hC=>BU ?_⟩;unfold Oper.wp;rw[hr];exact⟨rfl,hC⟩
   ·rw[hr]at h
    refine⟨undef,w',h,λC' hC=>BU ?_⟩;unfold Oper.wp;rw[hr];exact⟨rfl,hC⟩
  |halt x w'=>
   rw[hr]at h;cases x<;>simp only[Oper.upon]at h
   grind
 grind
def Nxs(P:Program)(ops:Array Oper)(S:List Nat)(E:World->Prop)(F:(World->Prop)->Act->Prop)(rest:List Oper)(k:Nat)(w:World):Exit->Act->World->Prop:=λe a w'=>e=.normal∧w'=w∧lu P ops S E F rest k (λx=>x=w) a
theorem O7(hw:Region.wanted ⟨dst,op,ty,pos,af,g⟩ (yielded ops a.tmps)=true)(hrd:rd ops S k=true)(hp:Db op=true)(h:wpList P ops (Nxs P ops S E F rest (k+1) w) [⟨dst,op,ty,pos,af,none⟩] a w):lu P ops S E F (⟨dst,op,ty,pos,af,g⟩::rest) k (λx=>x=w) a:=by
 obtain⟨v,w',⟨_,rfl,hn⟩,hr⟩:=acd (g:=g) hp (λ_ _ _ h=>h.1) h;unfold lu
 grind
theorem yw{id l Q}(S)(hm:P.follows .mixedOrders=true)(hB:R_ l.toArray S=true)(h:lu P l.toArray S (λ_=>True) (λC a=>∀w,C w->Q .normal a w) l 0 (λx=>x=w.drew) a):(Code.region id l.toArray true).wp P Q a w:=
 aJ S (λ_=>True) (C:=λx=>x=w.drew) rfl (λ_ _=>trivial) hm hB h
end
section
variable {P:Program}{ops:Array Oper}
def GM(R:World->Prop)(P:Program)(ops:Array Oper)(o:Oper)(v:Value)(a:Act):Prop:=
 (Region.wanted o (yielded ops a.tmps)=true∧∀w,R w->(execOp a.eval o).run P w=.ok (.value v) w)∨(Region.wanted o (yielded ops a.tmps)=false∧v=undef)
theorem GM.same{R o v a a'}(hy:GM R P ops o v a)(he:execOp a'.eval o=execOp a.eval o)(hw:Region.wanted o (yielded ops a'.tmps)=Region.wanted o (yielded ops a.tmps)):GM R P ops o v a':=by
 grind[GM]
def kV(P:Program)(ops:Array Oper)(S F G:List Nat)(C:World->Prop)(Q:Exit->Act->World->Prop):List Nat->Act->World->Prop
 | [],a,w=>Q .normal a w
 |i::is,a,w=>∃o,ops[i]? =some o∧
   ((S.elem i=true∧wpOp P ops (λ_ _ _=>False) i (λa' w'=>(G.elem i=true->C w')∧kV P ops S F G C Q is a' w') a w)∨
    (S.elem i=false∧(F.elem i=true->C w)∧∃v,GM (λx=>if F.elem i then C x else x=w) P ops o v a∧kV P ops S F G C Q is (a.put o.dst v) w))
def DI(ops:Array Oper)(S F G:List Nat)(i j:Nat):Bool:=
 !BQ ops ops.size i j&&(BQ ops ops.size j i|| (!S.elem i&&(!S.elem j|| (F.elem i&&G.elem j))&&
  match ops[i]?,ops[j]? with
  |some oi,some oj=>oi.apart ops oj&&oj.apart ops oi
  |_,_=>false))
def jU(ops:Array Oper)(S F G:List Nat):List Nat->Bool
 | []=>true
 |i::is=>is.all (DI ops S F G i)&&jU ops S F G is
def ace(ops:Array Oper)(S F G L:List Nat):Bool:=Region.noSelect ops&&jU ops S F G L&&(List.range ops.size).all (λi=>L.elem i)&&L.all (λi=>decide (i<ops.size))&&
 decide L.Nodup&&(List.range ops.size).all λk=>match ops[k]? with
  |none=>true
  |some o=>o.after.all λe=> !Region.binds .any e||decide (e.on<k)
theorem BV{S F G}:∀ {pre post i},jU ops S F G (pre++i::post)=true->(∀j∈pre,DI ops S F G j i=true)∧jU ops S F G (pre++post)=true
 | [],post,i,h=>by
  simp_all[jU]
 |j::pre,post,i,h=>by
  simp only[List.cons_append,jU,Bool.and_eq_true,List.all_eq_true,List.mem_append,List.mem_cons]at h|-;obtain⟨h1,h2⟩:=BV h.2
  grind
theorem O4{R j oi oj v}(hj:ops[j]? =some oj)(hap:oi.apart ops oj=true)(hsi:∀cs b,oi.op≠ .select cs b)(hsj:∀cs b,oj.op≠ .select cs b){K a w}(hy:GM R P ops oi v a)(h:wpOp P ops (λ_ _ _=>False) j K (a.put oi.dst v) w):
  wpOp P ops (λ_ _ _=>False) j (λa' w'=>GM R P ops oi v a'∧K (a'.put oi.dst v) w') a w:=by
 obtain⟨h1,h2,h3⟩:=Oper.apart_spec hap;have keep:∀u,GM R P ops oi v (a.put oj.dst u):=λu=>hy.same (execOp_put oi hsi a oj.dst u h3) (wanted_put oi a oj.dst u h3)
 have swap:∀u w',K ((a.put oi.dst v).put oj.dst u) w'->GM R P ops oi v (a.put oj.dst u)∧K ((a.put oj.dst u).put oi.dst v) w':=λu w' hk=>⟨keep u,by grind[Go.Act.put_comm]⟩
 unfold wpOp at h|-;rw[hj]at h|-;simp only at h|-;rw[wanted_put oj a oi.dst v h1]at h;by_cases hw:Region.wanted oj (yielded ops a.tmps)=true
 ·rw[if_pos hw]at h|-
  rcases h with h| ⟨ha,hl⟩
  ·left
   unfold Oper.wp at h|-;rw[execOp_put oj hsj a oi.dst v h1]at h;generalize(execOp a.eval oj).run P w=r at h|-;cases r with
   |ok n w'=>
    cases n<;>simp only[Oper.upon]at h|-
    case defer d=>
     have hy':GM R P ops oi v {a with defers:=d::a.defers}:=hy.same rfl rfl;refine⟨hy'.same (execOp_put oi hsi _ oj.dst undef h3) (wanted_put oi _ oj.dst undef h3),?_⟩
     grind[Go.Act.put_comm,Go.Act.put_defers]
    all_goals grind[Go.Calls.mono,Go.Rows.mono]
   |halt x w'=>
    cases x<;>simp only[Oper.upon]at h|-
  ·right
   refine⟨?_,hl⟩;unfold Oper.asks at ha|-;rw[execOp_put oj hsj a oi.dst v h1]at ha;exact ha
 grind
section
variable {S F G:List Nat}{C:World->Prop}{Q:Exit->Act->World->Prop}(hsel:∀(j:Nat) (o:Oper) cs b,ops[j]? =some o->o.op≠ .select cs b)
include hsel
theorem Xc{i post}:∀pre a w,(∀j∈pre,BQ ops ops.size i j=false)->(∀j∈pre,DI ops S F G j i=true)->kV P ops S F G C Q (pre++i::post) a w->
  ∃o,ops[i]? =some o∧((S.elem i=true∧wpOp P ops (λ_ _ _=>False) i (λa' w'=>(G.elem i=true->C w')∧kV P ops S F G C Q (pre++post) a' w') a w)∨
    (S.elem i=false∧(F.elem i=true->C w)∧∃v,GM (λx=>if F.elem i then C x else x=w) P ops o v a∧kV P ops S F G C Q (pre++post) (a.put o.dst v) w)):=by
 intro pre
 induction pre with
 |nil=>intro a w _ _ h;exact h
 |cons j pre ih=>
  intro a w hna hpo h;obtain⟨oj,hoj,hj⟩:=h;have hp:=hpo j SI;simp only[DI,hna j SI,Bool.false_or,Bool.and_eq_true,Bool.not_eq_true']at hp;obtain⟨_,⟨hjS,hiF⟩,hap⟩:=hp;rcases hj with⟨hS,_⟩ | ⟨_,hjC,vj,hyj,hj⟩
  ·grind
  obtain⟨oi,hoi,hi⟩:=ih (a.put oj.dst vj) w (λk hk=>hna k (by simp[hk])) (λk hk=>hpo k (by simp[hk])) hj;rw[hoj,hoi]at hap;simp only[Bool.and_eq_true]at hap;refine⟨oi,hoi,?_⟩;rcases hi with⟨WR,hi⟩ | ⟨WR,hiC,vi,hyi,hi⟩
  ·refine .inl ⟨WR,?_⟩
   obtain⟨hFj,hGi⟩:F.elem j=true∧G.elem i=true:=by
    grind
   refine wpOp_mono (λa' w' hh=>?_) (O4 hoi hap.1 (λcs b=>hsel j oj cs b hoj) (λcs b=>hsel i oi cs b hoi) hyj hi);refine⟨hh.2.1,oj,hoj,.inr ⟨hjS,λ_=>hh.2.1 hGi,vj,?_,hh.2.2⟩⟩
   grind
  ·refine .inr ⟨WR,hiC,vi,?_,oj,hoj,.inr ⟨hjS,hjC,vj,?_,?_⟩⟩
   ·obtain⟨h1,h2,h3⟩:=Oper.apart_spec hap.1
    exact hyi.same (execOp_put oi (λcs b=>hsel i oi cs b hoi) a oj.dst vj h1).symm (wanted_put oi a oj.dst vj h1).symm
   ·obtain⟨h1,h2,h3⟩:=Oper.apart_spec hap.2
    exact hyj.same (execOp_put oj (λcs b=>hsel j oj cs b hoj) a oi.dst vi h1) (wanted_put oj a oi.dst vi h1)
   ·obtain⟨h1,h2,h3⟩:=Oper.apart_spec hap.1
    rw[<-Act.put_comm a vj vi h2];exact hi
theorem DJ(Xd:∀i o,ops[i]? =some o->∀e∈o.after,Region.binds .any e=true->e.on<i):∀fuel listed is a w,is.length=fuel->Closed ops listed->is.Nodup->(∀i,i∈is↔(i<ops.size∧listed.getD i false=false))->jU ops S F G is=true->kV P ops S F G C Q is a w->
  wpAny P .any ops Q fuel listed a w:=by
 intro fuel
 induction fuel with
 |zero=>
  intro listed is a w hl hc _ hm _ h;obtain rfl:=List.eq_nil_of_length_eq_zero hl;refine⟨?_,h⟩;refine List.eq_nil_iff_forall_not_mem.2 λi hi=>?_
  grind[Go.mem_ready]
 |succ fuel ih=>
  intro listed is a w hl hc hnd hm hp h;refine⟨λh0=>?_,λi hi=>?_⟩
  ·
   obtain⟨i,is',rfl⟩:∃i is',is=i::is':=by
    cases is with
    |nil=>grind
    |cons i is'=>grind
   exfalso;have hi0:=(hm i).1 SI;have hin:i∈Region.ready .any ops listed:=by
    rw[mem_ready];refine⟨by rw[uV (by rw[hc.1];omega)];grind,ops[i]'hi0.1,by grind,λe he hb=>?_⟩;cases hle:listed.getD e.on false
    ·exfalso
     have afV:BQ ops ops.size i e.on=true:=by
      have hpos:0<ops.size:=by omega
      obtain⟨n,hn⟩:∃n,ops.size=n+1:=⟨ops.size-1,by omega⟩
      grind[BQ]
     have hlt:=Xd i ops[i] (Array.getElem?_eq_getElem hi0.1) e OM hb;have hmem:=(hm e.on).2 ⟨by omega,hle⟩;rcases List.mem_cons.1 hmem with heq|hmem
     all_goals simp_all[jU,DI]
    ·rfl
   grind
  ·obtain⟨h0,oi,hoi,hall⟩:=mem_ready.1 hi
   have hlt:=(Array.getElem?_eq_some_iff.1 hoi).1;have hmi:=(hm i).2 ⟨hlt,by grind⟩;obtain⟨pre,post,rfl⟩:=List.append_of_mem hmi;have hna:∀j∈pre,BQ ops ops.size i j=false:=λj hj=>by
    cases hb:BQ ops ops.size i j
    ·rfl
    ·have h1:=o9 hc ops.size i j hb ⟨oi,hoi,hall⟩
     grind
   obtain⟨hpm,WS⟩:=BV hp;obtain⟨o,ho,hs⟩:=Xc hsel pre a w hna hpm h;obtain rfl:o=oi:=Option.some.inj (ho.symm.trans hoi);have hcl:Closed ops (listed.setIfInBounds i true):=⟨by simp[hc.1],λj oj hj hlj e he hb=>by
    by_cases hij:i=j
    ·grind[Go.getD_set_true]
    ·rw[getD_set_ne false hij]at hlj
     exact getD_set_true (hc.2 j oj hj hlj e he hb)⟩
   have hnd':(pre++post).Nodup:=hnd.sublist (List.Sublist.append (List.Sublist.refl _) (List.sublist_cons_self _ _));have hni:i∉pre++post:=by
    grind
   have hm':∀k,k∈pre++post↔(k<ops.size∧(listed.setIfInBounds i true).getD k false=false):=λk=>by
    by_cases hik:i=k
    ·subst hik
     constructor
     ·grind
     ·rintro⟨_,hx⟩
      simp_all
    ·rw[getD_set_ne false hik,<-hm k]
     grind
   have hl':(pre++post).length=fuel:=by grind
   have next:∀a' w',kV P ops S F G C Q (pre++post) a' w'->wpAny P .any ops Q fuel (listed.setIfInBounds i true) a' w':=λa' w' hh=>ih _ _ a' w' hl' hcl hnd' hm' WS hh
   rcases hs with⟨_,hs⟩ | ⟨_,hiC,v,hy,hs⟩
   ·refine wpOp_mono (K:=λa' w'=>(G.elem i=true->C w')∧kV P ops S F G C Q (pre++post) a' w') (λa' w' hh=>next a' w' hh.2) ?_
    unfold wpOp at hs|-;rw[hoi]at hs|-;simp only at hs|-;by_cases hw:Region.wanted o (yielded ops a.tmps)=true
    ·rw[if_pos hw]at hs|-
     rcases hs with hs| ⟨_,_,_,hs⟩
     ·refine .inl ?_
      unfold Oper.wp at hs|-;generalize(execOp a.eval o).run P w=r at hs|-;cases r with
      |ok n w'=>
       cases n<;>simp only[Oper.upon]at hs|-
       case enter f args=>
        refine hs.mono λe w'' he=>?_
        cases e with
        |returned u=>exact he
        |panicked c=>exact he.elim
        |outgrown=>obtain⟨_,_,he⟩:=he;exact he.elim
       all_goals exact hs
      |halt x w'=>cases x<;>simp only[Oper.upon]at hs|-
     grind
    grind
   ·unfold wpOp
    rw[hoi];simp only;rcases hy with⟨hw,hy⟩ | ⟨hw,rfl⟩
    ·rw[if_pos hw]
     refine .inl ?_;unfold Oper.wp;rw[hy w (by split<;>first| (rename_i hf;exact hiC hf) |rfl)];exact next _ _ hs
    ·rw[if_neg (by rw[hw];simp)]
     exact next _ _ hs
end
theorem JH{id}{l:List Oper}{Q a w}(S F G L C)(hm:P.follows .mixedOrders=true)(hB:ace l.toArray S F G L=true)(h:kV P l.toArray S F G C Q L a w.drew):(Code.region id l.toArray true).wp P Q a w:=by
 simp only[ace,Bool.and_eq_true,List.all_eq_true,decide_eq_true_eq]at hB;obtain⟨⟨⟨⟨⟨h1,h2⟩,h3⟩,h4⟩,h5⟩,h6⟩:=hB;refine wp_region_any hm ?_;refine DJ (Region.noSelect_spec h1) (λi o ho e he hb=>?_) _ _ L a _ ?_ ?_ h5 ?_ h2 h
 ·grind[Array.all_eq_true_iff_forall_mem]
 ·have hp:L.Perm (List.range l.toArray.size):=(List.perm_ext_iff_of_nodup h5 List.nodup_range).2 λi=>⟨λhi=>by grind,λhi=>by grind⟩
  rw[hp.length_eq];simp
 ·refine⟨by simp,λj oj _ hj=>?_⟩
  simp only[Array.getD_eq_getD_getElem?,Array.getElem?_replicate]at hj
  grind
 ·intro i
  constructor
  all_goals simp_all
def JI:Op->Bool
 | .build .. | .load .. | .binOp .. | .unOp .. | .convert .. | .sliceToArrayPointer .. | .makeInterface .. | .makeFunc .. | .slice .. | .fieldAddr ..
 | .field .. | .indexAddr .. | .index .. | .lookup .. | .typeAssert .. | .extract .. | .move .. | .assign .. | .pick .. | .nilCheck .. =>true
 | .call c=>(match c.callee with| .builtin .len | .builtin .cap | .builtin .min | .builtin .max=>true|_=>false)
 |_=>false
theorem Ut{o ρ w w' n}(hp:JI o.op=true)(h:(execOp ρ o).run P w=.ok n w'):∃v,n=.value v:=by
 obtain⟨dst,op,ty,pos,af,g⟩:=o;cases op<;>simp only[JI,Bool.false_eq_true]at hp<;>simp only[execOp]at h
 case move=>grind[Go.Sem.run_pure]
 case assign=>grind[Go.Sem.run_pure]
 case pick=>
  rw[Sem.run_bind]at h
  rename_i c x y
  cases hb:(asBool (ρ c)).run P w with
  |ok v w1=>grind[Go.Result.andThen_ok,Go.Sem.run_pure]
  |halt x w1=>simp_all
 case nilCheck=>
  split at h
  iterate 3 (simp[runtimePanic,Sem.run]at h)
  ·split at h
   ·simp[runtimePanic,Sem.run]at h
   ·rw[Sem.run_bind]at h
    cases hb:(program:Sem Program).run P w with
    |ok p w1=>
     rw[hb,Result.andThen_ok,Sem.run_bind]at h
     rename_i t wv _
     cases hc:(nilAhead (p.types.size+Made.depth) t wv _).run P w1 with
     |ok u w2=>
      rw[hc,Result.andThen_ok]at h
      split at h
      ·simp_all
      grind[Go.Sem.run_pure]
     |halt x w2=>simp_all
    |halt x w1=>simp_all
   grind[Go.Sem.run_pure]
  grind[Go.Sem.run_pure]
 case call c=>
  obtain⟨callee,args,ats⟩:=c;cases callee with
  |builtin b=>
   cases b<;>simp only[Bool.false_eq_true]at hp<;>exact JF h
  |invoke=>grind
  |value=>grind
 all_goals exact JF h
theorem BX{o K Q a w}(h:Oper.wp P {o with guard:=none} a w K Q):Oper.wp P o a w K Q:=by
 unfold Oper.wp at h|-;have e:execOp a.eval o=execOp a.eval {o with guard:=none}:=rfl;rw[e];generalize(execOp a.eval {o with guard:=none}).run P w=r at h|-;cases r with
 |ok n w'=>cases n<;>exact h
 |halt x w'=>cases x<;>exact h
section
variable {l:List Oper}{S F G is:List Nat}{C:World->Prop}{Q:Exit->Act->World->Prop}{i:Nat}{a:Act}{w:World}{dst:Option Tmp}{op:Op}{ty:TypeId}{pos:String}{af:Array Edge}{g:Option (Nat×Bool)}
def sqK(P:Program)(ops:Array Oper)(S F G:List Nat)(C:World->Prop)(Q:Exit->Act->World->Prop)(is:List Nat)(b:Bool):Exit->Act->World->Prop:=λe a w=>e=.normal∧(b=true->C w)∧kV P ops S F G C Q is a w
theorem gz(h:kV P ops S F G C Q is a w):sqK P ops S F G C Q is false .normal a w:=⟨rfl,(λh=>nomatch h),h⟩
theorem iU(hC:C w)(h:kV P ops S F G C Q is a w):sqK P ops S F G C Q is true .normal a w:=⟨rfl,λ_=>hC,h⟩
def sqR(P:Program)(ops:Array Oper)(S F G:List Nat)(C:World->Prop)(Q:Exit->Act->World->Prop)(is:List Nat)(w:World):Exit->Act->World->Prop:=λe a w'=>e=.normal∧w'=w∧kV P ops S F G C Q is a w
theorem fZ(h:kV P ops S F G C Q is a w):sqR P ops S F G C Q is w .normal a w:=⟨rfl,rfl,h⟩
theorem zR(ho:l[i]? =some ⟨dst,op,ty,pos,af,g⟩)(hw:Region.wanted ⟨dst,op,ty,pos,af,g⟩ (yielded l.toArray a.tmps)=false)(hS:S.elem i=false)(hF:F.elem i=false)(h:kV P l.toArray S F G C Q is (a.put dst undef) w):
  kV P l.toArray S F G C Q (i::is) a w:=
 ⟨_,by grind,.inr ⟨hS,λh=>(by grind),undef,.inr ⟨hw,rfl⟩,h⟩⟩
theorem tZ(ho:l[i]? =some ⟨dst,op,ty,pos,af,g⟩)(hw:Region.wanted ⟨dst,op,ty,pos,af,g⟩ (yielded l.toArray a.tmps)=false)(hC:C w)(h:kV P l.toArray S F G C Q is (a.put dst undef) w):
  kV P l.toArray S F G C Q (i::is) a w:=by
 refine⟨_,by simpa using ho,?_⟩;cases hS:S.elem i
 ·exact .inr ⟨rfl,λ_=>hC,undef,.inr ⟨hw,rfl⟩,h⟩
 ·unfold wpOp
  grind
theorem Xe{b}(ho:l[i]? =some ⟨dst,op,ty,pos,af,g⟩)(hS:S.elem i=true)(hG:G.elem i=b)(hw:Region.wanted ⟨dst,op,ty,pos,af,g⟩ (yielded l.toArray a.tmps)=true)(h:wpList P l.toArray (sqK P l.toArray S F G C Q is b) [⟨dst,op,ty,pos,af,none⟩] a w):kV P l.toArray S F G C Q (i::is) a w:=by
 refine⟨_,by simpa using ho,.inl ⟨hS,?_⟩⟩;unfold wpOp;have h1:(⟨dst,op,ty,pos,af,none⟩:Oper).wp P a w (λa' w'=>(b=true->C w')∧kV P l.toArray S F G C Q is a' w') (λ_ _ _=>False):=qf (by simp[Region.wanted]) h
 grind[BX]
theorem acf(ho:l[i]? =some ⟨dst,op,ty,pos,af,g⟩)(hS:S.elem i=false)(hF:F.elem i=false)(hw:Region.wanted ⟨dst,op,ty,pos,af,g⟩ (yielded l.toArray a.tmps)=true)(hp:JI op=true)(h:wpList P l.toArray (sqR P l.toArray S F G C Q is w) [⟨dst,op,ty,pos,af,none⟩] a w):kV P l.toArray S F G C Q (i::is) a w:=by
 rcases h with h| ⟨_,_,_,h⟩
 ·unfold Oper.wp at h
  cases hr:(execOp a.eval ⟨dst,op,ty,pos,af,none⟩).run P w with
  |ok n w'=>
   obtain⟨v,rfl⟩:=Ut hp hr;rw[hr]at h;obtain⟨_,rfl,hn⟩:sqR P l.toArray S F G C Q is w .normal (a.put dst v) w':=h;exact⟨_,by grind,.inr ⟨hS,λh=>(by grind),v,.inl ⟨hw,λx hx=>by simp only[hF,Bool.false_eq_true,if_false]at hx;subst hx;exact hr⟩,hn⟩⟩
  |halt x w'=>
   rw[hr]at h;cases x<;>simp only[Oper.upon]at h
   cases h.1
 ·cases h.1
theorem iA{v}(ho:l[i]? =some ⟨dst,op,ty,pos,af,g⟩)(hS:S.elem i=false)(hF:F.elem i=true)(hw:Region.wanted ⟨dst,op,ty,pos,af,g⟩ (yielded l.toArray a.tmps)=true)(hC:C w)(hv:∀w,C w->gu P ⟨dst,op,ty,pos,af,none⟩ a w v)(h:kV P l.toArray S F G C Q is (a.put dst v) w):kV P l.toArray S F G C Q (i::is) a w:=
 ⟨_,by grind,.inr ⟨hS,λ_=>hC,v,.inl ⟨hw,λw' hw'=>by simp only[hF,if_true]at hw';exact hv w' hw'⟩,h⟩⟩
theorem dN(h:Q .normal a w):kV P l.toArray S F G C Q [] a w:=h
end
end
section
variable {T:List Nat}{w0 w w':World}{m m':List bT}{r r' x:bT}
theorem Inv.on(h:Inv T w0 w m)(hJ:Inv r.own w w' [r'])(hu:aU r r' m m'):Inv T w0 w' m':=by
 refine h.upd hu hJ.end_ (hJ.sat _ SI) (λk hk=>?_) ?_
 ·have:=hJ.mine k (by grind[owned])
  grind
 ·have:=hJ.apart
  grind[owned]
theorem Inv.part(h:Inv T w0 w m)(hu:aU r r' m m')(hr:r'.sat w)(hx:x.sat w)(hp:(x.own++r'.own).Perm r.own):Inv T w0 w (x::m'):=by
 obtain⟨m1,m2,rfl,rfl⟩:=hu.split;have hperm:(owned (x::(m1++r'::m2))).Perm (owned (m1++r::m2)):=by
  grind[iR,fe]
 refine⟨h.os,h.tape,h.output,h.size,h.old,λy hy=>?_,λk hk=>h.mine k (hperm.subset hk),hperm.nodup_iff.2 h.apart⟩
 grind[Inv.sat]
theorem aU.mid(r r' m2):∀m1,aU r r' (m1++r::m2) (m1++r'::m2)
 | []=>aU.here
 |_::m1=>aU.there (aU.mid r r' m2 m1)
def two(x r':bT):bT:=⟨x.own++r'.own,λw=>x.sat w∧r'.sat w,λw w' h hs=>⟨x.loc w w' (λk hk=>h k (List.mem_append.2 (.inl hk))) hs.1,r'.loc w w' (λk hk=>h k (List.mem_append.2 (.inr hk))) hs.2⟩⟩
theorem Inv.Uu(h:Inv T w0 w m)(hJ:Inv r.own w w' [x,r'])(hu:aU r r' m m'):Inv T w0 w' (x::m'):=by
 obtain⟨m1,m2,rfl,rfl⟩:=hu.split;have hJ2:Inv r.own w w' [two x r']:=⟨hJ.os,hJ.tape,hJ.output,hJ.size,hJ.old,λy hy=>by
  obtain rfl:=List.mem_singleton.1 hy;exact⟨hJ.sat _ SI,hJ.sat _ SI⟩,λk hk=>hJ.mine k (by grind[owned,two]),by simpa[owned,two]using hJ.apart⟩
 have h2:=h.on hJ2 (aU.mid r (two x r') m2 m1);have hs:=h2.sat (two x r') SI;exact h2.part (aU.mid (two x r') r' m2 m1) hs.2 hs.1 (List.Perm.refl _)
end
theorem Inv.nd{T w0 w m r}(h:Inv T w0 w m)(hm:r∈m):r.own.Nodup:=by
 obtain⟨m1,m2,rfl⟩:=List.append_of_mem hm
 grind[Inv.apart,iR,fe]
section
variable {T:List Nat}{w0 w w':World}{m m':List bT}{r r' x:bT}
theorem Inv.at_(h:Inv T w0 w m)(hm:r∈m):Inv r.own w w [r]:=by
 refine⟨rfl,rfl,rfl,Nat.le_refl _,λ_ _ _=>rfl,λy hy=>?_,λk hk=>?_,?_⟩
 ·grind[Inv.sat]
 ·have hk2:k∈r.own:=by grind[owned]
  exact⟨.inr hk2,(h.mine k (fT.2 ⟨r,hm,hk2⟩)).2⟩
 grind[owned,Inv.nd]
theorem Inv.turn(h:Inv T w0 w m)(hs:(∀y∈m,y.sat w)->∀y∈m',y.sat w)(hp:(owned m').Perm (owned m)):Inv T w0 w m':=
 ⟨h.os,h.tape,h.output,h.size,h.old,hs h.sat,λk hk=>h.mine k (hp.subset hk),hp.nodup_iff.2 h.apart⟩
theorem Inv.dR(h:Inv T w0 w (two x r::m)):Inv T w0 w (x::r::m):=
 h.turn (λhs y hy=>by
  simp only[List.mem_cons]at hy;rcases hy with rfl|rfl|hy
  all_goals simp_all[two]) (by simp[owned,two])
theorem Inv.eX(h:Inv T w0 w (x::r::m)):Inv T w0 w (two x r::m):=
 h.turn (λhs y hy=>by
  simp only[List.mem_cons]at hy;rcases hy with rfl|hy
  ·exact⟨hs _ SI,hs _ SI⟩
  grind) (by simp[owned,two])
def gY(I:List Nat)(f:Nat->bT):bT:=
 ⟨owned (I.map f),λw=>∀i∈I,(f i).sat w,λw w' h hs i hi=>(f i).loc w w' (λk hk=>h k (fT.2 ⟨f i,List.mem_map.2 ⟨i,hi,rfl⟩,hk⟩)) (hs i hi)⟩
theorem DK{I J}(f)(h:I.Perm J):(gY I f).own.Perm (gY J f).own:=by
 exact(h.map f).flatMap_right _
theorem Inv.pull(h:Inv T w0 w m){I f i}(hi:i∈I)(hu:aU (gY I f) (gY (I.erase i) f) m m'):Inv T w0 w (f i::m'):=by
 have hs:(gY I f).sat w:=h.sat (gY I f) (by grind[aU.split]);refine h.part hu (λj hj=>hs j (List.mem_of_mem_erase hj)) (hs i hi) ?_;exact(DK f (List.perm_cons_erase hi)).symm
theorem Inv.push(h:Inv T w0 w (r::m)){I f g i}(hn:I.Nodup)(hi:i∈I)(hr:r=g i)(hg:∀j∈I,j≠i->g j=f j)(hu:aU (gY (I.erase i) f) (gY I g) m m'):Inv T w0 w m':=by
 obtain⟨m1,m2,rfl,rfl⟩:=hu.split;have he:(gY (I.erase i) f)=gY (I.erase i) g:=by
  have e:∀j∈I.erase i,f j=g j:=λj hj=>by
   grind
  unfold gY;congr 1
  ·rw[List.map_congr_left e]
  grind
 rw[he]at h;refine h.turn (λhs y hy=>?_) ?_
 ·simp only[List.mem_append,List.mem_cons]at hy
  rcases hy with hy|rfl|hy
  ·grind
  ·intro j hj
   by_cases hji:j=i
   ·grind
   ·exact hs (gY (I.erase i) g) SI j (hn.mem_erase_iff.2 ⟨hji,hj⟩)
  grind
 ·have hp:((g i).own++(gY (I.erase i) g).own).Perm (gY I g).own:=(DK g (List.perm_cons_erase hi)).symm
  simp only[iR,fe]
  grind
theorem Inv.more(h:Inv T w0 w (r::m)){I f g i}(hi:i∉I)(hr:r=g i)(hg:∀j∈I,g j=f j)(hu:aU (gY I f) (gY (I++[i]) g) m m'):Inv T w0 w m':=by
 obtain⟨m1,m2,rfl,rfl⟩:=hu.split;refine h.turn (λhs y hy=>?_) ?_
 ·simp only[List.mem_append,List.mem_cons]at hy
  rcases hy with hy|rfl|hy
  ·grind
  ·intro j hj
   simp only[List.mem_append,List.mem_singleton]at hj;rcases hj with hj|rfl
   ·rw[hg j hj];exact hs (gY I f) SI j hj
   grind
  grind
 ·have e:(gY (I++[i]) g).own=(gY I f).own++(g i).own:=by
   show owned ((I++[i]).map g)=owned (I.map f)++_
   grind[List.map_congr_left,owned]
  grind[iR,fe]
theorem Inv.afW(h:Inv T w0 w m)(f):Inv T w0 w (gY [] f::m):=
 h.turn (λhs y hy=>by
  rcases List.mem_cons.1 hy with rfl|hy
  ·intro j hj;grind
  grind) (by simp[owned,gY])
end
def gV{α:Type}(f:Nat->α)(i:Nat)(v:α):Nat->α:=λj=>if j=i then v else f j
theorem bE{α}(f:Nat->α)(i v):gV f i v i=v:=if_pos rfl
theorem bI{α}(f:Nat->α){i j}(v)(h:j≠i):gV f i v j=f j:=if_neg h
theorem Inv.jS{T w0 w x y m}(h:Inv T w0 w (x::y::m)):Inv T w0 w (y::x::m):=
 h.turn (λhs z hz=>hs z (by grind)) (by
  grind[fe])
theorem Inv.toEnd{T w0 w x m}(h:Inv T w0 w (x::m)):Inv T w0 w (m++[x]):=
 h.turn (λhs z hz=>hs z (by grind)) (by
  grind[owned])
def ay:List Int->List (Nat×List Int)->List Int
 |zs,[]=>zs
 |zs,(o,vs)::l=>ay (dK zs o vs) l
theorem ky{pre x post y o}(ho:o=pre.length)(hl:y.length=x.length):dK (pre++(x++post)) o y=pre++(y++post):=by
 grind[dK]
theorem qO{pre x post o n}(ho:o=pre.length)(hn:n=x.length):sub (pre++(x++post)) o n=x:=by
 grind[sub]
theorem yN{pre post x o}(ho:o=pre.length):gi (pre++(x::post)) o=x:=by
 grind[gi]
theorem set_mid{pre post:List Int}{x y o}(ho:o=pre.length):(pre++(x::post)).set o y=pre++(y::post):=by simp_all
def bf(k w:Int)(r:List Int)(e:Int)(b c v:List Int):List Int:=k::(w::(r++(e::(b++(c++(v))))))
section
variable {k w e:Int}{r b c v:List Int}
theorem ed(hr:r.length=174)(hb:b.length=2)(hc:c.length=3)(hv:v.length=7):(bf k w r e b c v).length=189:=by grind[bf]
theorem dx:gi (bf k w r e b c v) 0=k:=by
 rw[show bf k w r e b c v=([])++(k::([w]++r++[e]++b++c++v)) by simp[bf]]
 grind[yN]
theorem eO{y}:dK (bf k w r e b c v) 0 [y]=bf y w r e b c v:=by
 rw[show bf k w r e b c v=([])++([k]++([w]++r++[e]++b++c++v)) by simp[bf],ky SI SI];simp[bf]
theorem xz:gi (bf k w r e b c v) 1=w:=by
 rw[show bf k w r e b c v=([k])++(w::(r++[e]++b++c++v)) by simp[bf]]
 grind[yN]
theorem kz{y}:(bf k w r e b c v).set 1 y=bf k y r e b c v:=by
 grind[bf]
theorem O8{y}:dK (bf k w r e b c v) 1 [y]=bf k y r e b c v:=by
 rw[show bf k w r e b c v=([k])++([w]++(r++[e]++b++c++v)) by simp[bf],ky SI SI];simp[bf]
theorem g_(hr:r.length=174):sub (bf k w r e b c v) 2 174=r:=by
 rw[show bf k w r e b c v=([k]++[w])++(r++([e]++b++c++v)) by simp[bf]]
 grind[qO]
theorem i_(hr:r.length=174){y}(hy:y.length=174):dK (bf k w r e b c v) 2 y=bf k w y e b c v:=by
 rw[show bf k w r e b c v=([k]++[w])++(r++([e]++b++c++v)) by simp[bf],ky SI OM];simp[bf]
theorem Hu(hr:r.length=174):gi (bf k w r e b c v) 176=e:=by
 rw[show bf k w r e b c v=([k]++[w]++r)++(e::(b++c++v)) by simp[bf]]
 grind[yN]
theorem kC(hr:r.length=174){y}:(bf k w r e b c v).set 176 y=bf k w r y b c v:=by
 grind[bf,set_mid]
theorem DL(hr:r.length=174){y}:dK (bf k w r e b c v) 176 [y]=bf k w r y b c v:=by
 rw[show bf k w r e b c v=([k]++[w]++r)++([e]++(b++c++v)) by simp[bf],ky (by simp[hr]) SI];simp[bf]
theorem fJ(hr:r.length=174)(hb:b.length=2):sub (bf k w r e b c v) 177 2=b:=by
 rw[show bf k w r e b c v=([k]++[w]++r++[e])++(b++(c++v)) by simp[bf]]
 grind[qO]
theorem ja(hr:r.length=174)(hb:b.length=2){y}(hy:y.length=2):dK (bf k w r e b c v) 177 y=bf k w r e y c v:=by
 rw[show bf k w r e b c v=([k]++[w]++r++[e])++(b++(c++v)) by simp[bf],ky (by simp[hr]) OM];simp[bf]
theorem jb(hr:r.length=174)(hb:b.length=2)(hc:c.length=3):sub (bf k w r e b c v) 179 3=c:=by
 grind[bf,qO]
theorem jM(hr:r.length=174)(hb:b.length=2)(hc:c.length=3){y}(hy:y.length=3):dK (bf k w r e b c v) 179 y=bf k w r e b y v:=by
 grind[bf,ky]
theorem jc(hr:r.length=174)(hb:b.length=2)(hc:c.length=3)(hv:v.length=7):sub (bf k w r e b c v) 182 7=v:=by
 rw[show bf k w r e b c v=([k]++[w]++r++[e]++b++c)++(v++([])) by simp[bf]]
 grind[qO]
theorem jN(hr:r.length=174)(hb:b.length=2)(hc:c.length=3)(hv:v.length=7){y}(hy:y.length=7):dK (bf k w r e b c v) 182 y=bf k w r e b c y:=by
 rw[show bf k w r e b c v=([k]++[w]++r++[e]++b++c)++(v++([])) by simp[bf],ky (by grind) OM];simp[bf]
end
theorem jX:au 189=bf 0 0 (au 174) 0 (au 2) (au 3) (au 7):=by rfl
def aF(k w:Int)(r:List Int)(n e:Int)(b h c v:List Int):List Int:=k::(w::(r++(n::(e::(b++(h++(c++(v))))))))
section
variable {k w n e:Int}{r b h c v:List Int}
theorem eY(hr:r.length=174)(hb:b.length=2)(hh:h.length=2)(hc:c.length=3)(hv:v.length=7):(aF k w r n e b h c v).length=192:=by simp_all[aF]
theorem aD:gi (aF k w r n e b h c v) 0=k:=by
 rw[show aF k w r n e b h c v=([])++(k::([w]++r++[n]++[e]++b++h++c++v)) by simp[aF]]
 grind[yN]
theorem O9{y}:(aF k w r n e b h c v).set 0 y=aF y w r n e b h c v:=by
 grind[aF]
theorem bR{y}:dK (aF k w r n e b h c v) 0 [y]=aF y w r n e b h c v:=by
 rw[show aF k w r n e b h c v=([])++([k]++([w]++r++[n]++[e]++b++h++c++v)) by simp[aF],ky SI SI];simp[aF]
theorem kQ:gi (aF k w r n e b h c v) 1=w:=by
 rw[show aF k w r n e b h c v=([k])++(w::(r++[n]++[e]++b++h++c++v)) by simp[aF]]
 grind[yN]
theorem gB{y}:(aF k w r n e b h c v).set 1 y=aF k y r n e b h c v:=by
 grind[aF]
theorem DN{y}:dK (aF k w r n e b h c v) 1 [y]=aF k y r n e b h c v:=by
 rw[show aF k w r n e b h c v=([k])++([w]++(r++[n]++[e]++b++h++c++v)) by simp[aF],ky SI SI];simp[aF]
theorem bZ(hr:r.length=174):sub (aF k w r n e b h c v) 2 174=r:=by
 rw[show aF k w r n e b h c v=([k]++[w])++(r++([n]++[e]++b++h++c++v)) by simp[aF]]
 grind[qO]
theorem fK(hr:r.length=174){y}(hy:y.length=174):dK (aF k w r n e b h c v) 2 y=aF k w y n e b h c v:=by
 rw[show aF k w r n e b h c v=([k]++[w])++(r++([n]++[e]++b++h++c++v)) by simp[aF],ky SI OM];simp[aF]
theorem Hw(hr:r.length=174):gi (aF k w r n e b h c v) 176=n:=by
 rw[show aF k w r n e b h c v=([k]++[w]++r)++(n::([e]++b++h++c++v)) by simp[aF]]
 grind[yN]
theorem gD(hr:r.length=174){y}:(aF k w r n e b h c v).set 176 y=aF k w r y e b h c v:=by
 grind[aF,set_mid]
theorem jw(hr:r.length=174):gi (aF k w r n e b h c v) 177=e:=by
 rw[show aF k w r n e b h c v=([k]++[w]++r++[n])++(e::(b++h++c++v)) by simp[aF]]
 grind[yN]
theorem gF(hr:r.length=174){y}:(aF k w r n e b h c v).set 177 y=aF k w r n y b h c v:=by
 simp_all[aF]
theorem DR(hr:r.length=174){y}:dK (aF k w r n e b h c v) 177 [y]=aF k w r n y b h c v:=by
 rw[show aF k w r n e b h c v=([k]++[w]++r++[n])++([e]++(b++h++c++v)) by simp[aF],ky (by simp[hr]) SI];simp[aF]
theorem bO(hr:r.length=174)(hb:b.length=2):sub (aF k w r n e b h c v) 178 2=b:=by
 rw[show aF k w r n e b h c v=([k]++[w]++r++[n]++[e])++(b++(h++c++v)) by simp[aF]]
 grind[qO]
theorem fo(hr:r.length=174)(hb:b.length=2){y}(hy:y.length=2):dK (aF k w r n e b h c v) 178 y=aF k w r n e y h c v:=by
 rw[show aF k w r n e b h c v=([k]++[w]++r++[n]++[e])++(b++(h++c++v)) by simp[aF],ky (by simp[hr]) OM];simp[aF]
theorem eP(hr:r.length=174)(hb:b.length=2)(hh:h.length=2):sub (aF k w r n e b h c v) 180 2=h:=by
 grind[aF,qO]
theorem fM(hr:r.length=174)(hb:b.length=2)(hh:h.length=2){y}(hy:y.length=2):dK (aF k w r n e b h c v) 180 y=aF k w r n e b y c v:=by
 grind[aF,ky]
theorem dH(hr:r.length=174)(hb:b.length=2)(hh:h.length=2)(hc:c.length=3):sub (aF k w r n e b h c v) 182 3=c:=by
 grind[aF,qO]
theorem fq(hr:r.length=174)(hb:b.length=2)(hh:h.length=2)(hc:c.length=3){y}(hy:y.length=3):dK (aF k w r n e b h c v) 182 y=aF k w r n e b h y v:=by
 grind[aF,ky]
theorem dO(hr:r.length=174)(hb:b.length=2)(hh:h.length=2)(hc:c.length=3)(hv:v.length=7):sub (aF k w r n e b h c v) 185 7=v:=by
 rw[show aF k w r n e b h c v=([k]++[w]++r++[n]++[e]++b++h++c)++(v++([])) by simp[aF]]
 grind[qO]
theorem fu(hr:r.length=174)(hb:b.length=2)(hh:h.length=2)(hc:c.length=3)(hv:v.length=7){y}(hy:y.length=7):dK (aF k w r n e b h c v) 185 y=aF k w r n e b h c y:=by
 rw[show aF k w r n e b h c v=([k]++[w]++r++[n]++[e]++b++h++c)++(v++([])) by simp[aF],ky (by grind) OM];simp[aF]
end
theorem fC:au 192=aF 0 0 (au 174) 0 0 (au 2) (au 2) (au 3) (au 7):=by rfl
def opI(k i j key n:Int)(c:List Int)(mask eQ cut:Int):List Int:=k::(i::(j::(key::(n::(c++(mask::(eQ::([cut]))))))))
def qB(e:Int)(b h c:List Int):List Int:=e::(b++(h++(c)))
class bP (P:Program) (t:TypeId) (n:outParam Nat):Prop where out:gm P t n
class aQ (P:Program) (t:TypeId):Prop where out:iY P t
class yn (P:Program) (t:TypeId) (n:outParam Nat):Prop where out:nK P t n
class Lu (P:Program) (t:TypeId):Prop where out:iH P t
class t_ (P:Program) (t:TypeId) (n:outParam Nat):Prop where out:oW P t n
class yO (P:Program) (t:TypeId) (len e q:outParam Nat):Prop where out:LQ P t len e q
section
variable {P:Program}{ops:Array Oper}{Q:Exit->Act->World->Prop}{a:Act}{rest:List Oper}{T:List Nat}{w0 w:World}{m m':List bT}{dst:Option Tmp}{ty:TypeId}{pos:String}{af:Array Edge}
variable {x y:Operand}{t n b off:Nat}{e:TypeId}{zs vs:List Int}{cs:List Value}{v:Value}
theorem kon{op j want}(h:yielded ops a.tmps j=some want:=by exact RF)(k:wpList P ops Q (⟨dst,op,ty,pos,af,none⟩::rest) a w):wpList P ops Q (⟨dst,op,ty,pos,af,some (j,want)⟩::rest) a w:=Uo h k
theorem LU(hI:Inv T w0 w m)(hx:a.eval x=.pointer (some ⟨b,0,none⟩):=by exact RF)(hm:ib b e zs∈m:=by exact MM)[hT:bP P t n]
  (hl:zs.length=n:=by exact LN)
  (k:wpList P ops Q rest (a.put dst (ia zs)) w):wpList P ops Q (⟨dst,.load t x,ty,pos,af,none⟩::rest) a w:=Dx hI hx hm hT.out hl k
theorem akN(hI:Inv T w0 w m)(hx:a.eval x=.pointer (some ⟨b,off,none⟩):=by exact RF)(hv:a.eval y=ia vs:=by exact RF)
  (hu:aU (ib b e zs) (ib b e (dK zs off vs)) m m':=by exact UU) [hT:bP P t n]
  (hl:vs.length=n:=by exact LN) (ho:off+n<=zs.length:=by exact LN)
  (k:∀w',Inv T w0 w' m'->wpList P ops Q rest (a.put dst undef) w'):wpList P ops Q (⟨dst,.store t x y,ty,pos,af,none⟩::rest) a w:=vO hI hx hv hu hT.out hl ho k
theorem JJ(hI:Inv T w0 w m)(hx:a.eval x=.pointer (some ⟨b,0,none⟩):=by exact RF)(hv:a.eval y=ia vs:=by exact RF)
  (hu:aU (ib b e zs) (ib b e vs) m m':=by exact UU) [hT:bP P t n]
  (hl:vs.length=n:=by exact LN) (ho:zs.length=n:=by exact LN)
  (k:∀w',Inv T w0 w' m'->wpList P ops Q rest (a.put dst undef) w'):wpList P ops Q (⟨dst,.store t x y,ty,pos,af,none⟩::rest) a w:=vP hI hx hv hu hT.out hl ho k
theorem akO{v}(hI:Inv T w0 w m)(hx:a.eval x=.pointer (some ⟨b,off,none⟩):=by exact RF)(hv:a.eval y=.int .i64 v:=by exact RF)
  (hu:aU (ib b e zs) (ib b e (zs.set off v)) m m':=by exact UU) [hT:aQ P t]
  (ho:off<zs.length:=by exact LN)
  (k:∀w',Inv T w0 w' m'->wpList P ops Q rest (a.put dst undef) w'):wpList P ops Q (⟨dst,.store t x y,ty,pos,af,none⟩::rest) a w:=Cz hI hx hv hu hT.out ho k
theorem akP{u}(hI:Inv T w0 w m)(hx:a.eval x=.pointer (some ⟨b,off,none⟩):=by exact RF)(hv:a.eval y=.bool u:=by exact RF)
  (hu:aU (blk b e cs) (blk b e (cs.set off (.bool u))) m m':=by exact UU) [hT:aQ P t]
  (ho:off<cs.length:=by simp)
  (k:∀w',Inv T w0 w' m'->wpList P ops Q rest (a.put dst undef) w'):wpList P ops Q (⟨dst,.store t x y,ty,pos,af,none⟩::rest) a w:=iZ hI hx hv rfl rfl hu hT.out ho k
theorem akQ{u}(hI:Inv T w0 w m)(hx:a.eval x=.pointer (some ⟨b,off,none⟩):=by exact RF)(hv:a.eval y=.pointer u:=by exact RF)
  (hu:aU (blk b e cs) (blk b e (cs.set off (.pointer u))) m m':=by exact UU) [hT:aQ P t]
  (ho:off<cs.length:=by simp)
  (k:∀w',Inv T w0 w' m'->wpList P ops Q rest (a.put dst undef) w'):wpList P ops Q (⟨dst,.store t x y,ty,pos,af,none⟩::rest) a w:=iZ hI hx hv rfl rfl hu hT.out ho k
theorem akR{u q c}(hI:Inv T w0 w m)(hx:a.eval x=.pointer (some ⟨b,off,none⟩):=by exact RF)(hv:a.eval y=.slice u q c:=by exact RF)
  (hu:aU (blk b e cs) (blk b e (cs.set off (.slice u q c))) m m':=by exact UU) [hT:aQ P t]
  (ho:off<cs.length:=by simp)
  (k:∀w',Inv T w0 w' m'->wpList P ops Q rest (a.put dst undef) w'):wpList P ops Q (⟨dst,.store t x y,ty,pos,af,none⟩::rest) a w:=iZ hI hx hv rfl rfl hu hT.out ho k
theorem akS{kd u}(hI:Inv T w0 w m)(hx:a.eval x=.pointer (some ⟨b,off,none⟩):=by exact RF)(hv:a.eval y=.int kd u:=by exact RF)
  (hu:aU (blk b e cs) (blk b e (cs.set off (.int kd u))) m m':=by exact UU) [hT:aQ P t]
  (ho:off<cs.length:=by simp)
  (k:∀w',Inv T w0 w' m'->wpList P ops Q rest (a.put dst undef) w'):wpList P ops Q (⟨dst,.store t x y,ty,pos,af,none⟩::rest) a w:=iZ hI hx hv rfl rfl hu hT.out ho k
theorem aiT(hI:Inv T w0 w m)(hv:a.eval x=ia zs:=by exact RF)
  (k:∀b w',Inv T w0 w' (ib b t zs::m)->wpList P ops Q rest (a.put dst (.pointer (some ⟨b,0,none⟩))) w'):wpList P ops Q (⟨dst,.box t x,ty,pos,af,none⟩::rest) a w:=GR hI hv k
theorem DT(hI:Inv T w0 w m)[hz:yn P t n]
  (k:∀b w',Inv T w0 w' (ib b t (au n)::m)->wpList P ops Q rest (a.put dst (.pointer (some ⟨b,0,none⟩))) w'):wpList P ops Q (⟨dst,.alloc t,ty,pos,af,none⟩::rest) a w:=CB hI hz.out k
theorem akT{t':Nat}(hx:a.eval x=ia zs:=by exact RF)(hy:a.eval y=ia zs:=by exact RF)[hT:bP P t n][hF:t_ P t n](h1:zs.length=n:=by exact LN)
  (k:wpList P ops Q rest (a.put dst (.bool true)) w):wpList P ops Q (⟨dst,.binOp .eql t x y t',ty,pos,af,none⟩::rest) a w:=Dz hx hy hT.out hF.out h1 k
theorem keq{t':Nat}{ws}(hx:a.eval x=ia zs:=by exact RF)(hy:a.eval y=ia ws:=by exact RF)[hT:bP P t n][hF:t_ P t n]
  (h1:zs.length=n:=by exact LN) (h2:ws.length=n:=by exact LN)
  (k:wpList P ops Q rest (a.put dst (.bool (decide (zs=ws)))) w):wpList P ops Q (⟨dst,.binOp .eql t x y t',ty,pos,af,none⟩::rest) a w:=zO hx hy hT.out hF.out h1 h2 k
theorem kne{t':Nat}{ws}(hx:a.eval x=ia zs:=by exact RF)(hy:a.eval y=ia ws:=by exact RF)[hT:bP P t n][hF:t_ P t n]
  (h1:zs.length=n:=by exact LN) (h2:ws.length=n:=by exact LN)
  (k:wpList P ops Q rest (a.put dst (.bool (!decide (zs=ws)))) w):wpList P ops Q (⟨dst,.binOp .neq t x y t',ty,pos,af,none⟩::rest) a w:=kv hx hy hT.out hF.out h1 h2 k
theorem akU{len e q k0 i}(hx:a.eval x=ia zs:=by exact RF)(hy:a.eval y=.int k0 i:=by exact RF)[hA:yO P t len e q][hT:bP P e q](h0:0<=i:=by omega)(h1:i<len:=by omega)
  (k:wpList P ops Q rest (a.put dst (ia (sub zs (i.toNat*q) q))) w):wpList P ops Q (⟨dst,.index t x y,ty,pos,af,none⟩::rest) a w:=CE hx hy hA.out hT.out h0 h1 k
theorem aiU{len e k0 i}(hx:a.eval x=ia zs:=by exact RF)(hy:a.eval y=.int k0 i:=by exact RF)[hA:yO P t len e 1][hT:aQ P e](h0:0<=i:=by omega)(h1:i<len:=by omega)
  (hl:zs.length=len:=by exact LN)
  (k:wpList P ops Q rest (a.put dst (.int .i64 (gi zs i.toNat))) w):wpList P ops Q (⟨dst,.index t x y,ty,pos,af,none⟩::rest) a w:=vQ hx hy hA.out hT.out h0 h1 hl k
theorem akV[hz:yn P t n][hK:Lu P t](k:wpList P ops Q rest (a.put dst (ia (au n))) w):wpList P ops Q (⟨dst,.build t #[],ty,pos,af,none⟩::rest) a w:=Bg hz.out hK.out k
end
def GU(P:Program)(t i off q:Nat):Prop:=∃fs:Array Field,P.underlying t=some (.struct fs)∧(fs.toList[i]?).map (placeOf P)=some (off,q)
def JK(P:Program)(t:Nat):Prop:=∃fs:Array Field,P.underlying t=some (.struct fs)∧(fs.toList.all (λf=>(P.info? f.type).isSome))=true
def Hy:List Value->List (Nat×List Value)->List Value
 |zs,[]=>zs
 |zs,(o,vs)::l=>Hy (splice zs o vs) l
def DU(P:Program)(a:Act)(t n:Nat):List (Nat×Operand)->List (Nat×List Value)->Prop
 | [],[]=>True
 | (i,x)::ps,(o,vs)::l=>(a.eval x).cells=vs.toArray∧GU P t i o vs.length∧o+vs.length<=n∧DU P a t n ps l
 |_,_=>False
theorem O_{zs vs o}(h:o+vs.length<=zs.length):(splice zs o vs).length=zs.length:=by
 grind[splice]
theorem foldl_set(vs):∀k zs o,o+k+vs.length<=zs.length->
  (vs.zipIdx k).foldl (λ(cs:Array Value) (x:Value×Nat)=>cs.setIfInBounds (o+x.2) x.1) zs.toArray=(splice zs (o+k) vs).toArray:=by
 induction vs with
 |nil=>simp_all[splice]
 |cons v vs ih=>
  intro k zs o h;simp only[List.length_cons]at h;simp only[List.zipIdx_cons,List.foldl_cons,List.setIfInBounds_toArray];rw[ih (k+1) (zs.set (o+k) v) o (by grind),<-Nat.add_assoc,BO zs (o+k) v vs OM]
theorem DV{P a}{t n:Nat}{fs}(hu:P.underlying t=some (.struct fs)):∀ps l zc,zc.length=n->DU P a t n ps l->
  Instr.fill (λi=>Option.map (placeOf P) fs[i]?) zc.toArray (ps.map λp=>(p.1,a.eval p.2))=some (Hy zc l).toArray
 | [],[],zc,_,_=>rfl
 | (i,x)::ps,(o,vs)::l,zc,hn,⟨h1,⟨fs',hu',hf⟩,h3,h4⟩=>by
  have hp:Option.map (placeOf P) fs[i]? =some (o,vs.length):=by grind
  simp only[List.map_cons,Instr.fill,hp,h1,List.size_toArray];rw[if_neg (by grind)];have:=foldl_set vs 0 zc o OM;rw[Nat.add_zero,<-List.foldl_toArray,<-Array.zipIdx_toArray]at this;rw[this];exact DV hu ps l (splice zc o vs) (by grind[O_]) h4
 | [],_::_,_,_,h=>h.elim
 |_::_,[],_,_,h=>h.elim
section
variable {P:Program}{ops:Array Oper}{Q:Exit->Act->World->Prop}{a:Act}{rest:List Oper}{T:List Nat}{w0 w:World}{m m':List bT}{dst:Option Tmp}{ty:TypeId}{pos:String}{af:Array Edge}
theorem jO{t n:Nat}{ps z zc}(l)(hz:(P.info? t).map (·.zero)=some (some z))(hzc:z.cells=zc.toArray)(hn:zc.length=n)(hS:JK P t)(hp:DU P a t n ps l)(k:wpList P ops Q rest (a.put dst (.agg (Hy zc l).toArray)) w):wpList P ops Q (⟨dst,.build t ps.toArray,ty,pos,af,none⟩::rest) a w:=by
 refine av ?_ k;obtain⟨fs,hu,hK⟩:=hS;obtain⟨inf,JL,hz'⟩:=Option.map_eq_some_iff.1 hz;have hzv:(zeroValue t).run P w=.ok z w:=by simp[zeroValue,typeInfo,JL,hz']
 have hr:=mZ (P:=P) fs.toList (List.all_eq_true.1 hK) w;unfold gu execOp;simp only[List.map_toArray,Instr.build,Sem.run_bind,hzv,Result.andThen_ok,run_underlying hu];rw[<-Array.toArray_toList (xs:=fs),List.mapM_toArray];simp only[Sem.run_map,hr,hzc];have hf:=DV (a:=a) hu ps l zc hn hp;simp[hf]
end
def Rd(w:World)(a:Option Addr)(xs:List Value):Prop:=∀j u,xs[j]? =some u->∃b off,a=some ⟨b,off,none⟩∧w.cell? ⟨b,off+j,none⟩=some u
theorem Rd.nil(w a):Rd w a []:=λ_ _ h=>by grind
theorem Rd.below{w w' a xs}(h:Rd w a xs)(hb:Below w.heap.size w w'):Rd w' a xs:=λj u hj=>by
 obtain⟨b,off,ha,hc⟩:=h j u hj;exact⟨b,off,ha,(hb.cell (World.block_lt_of_cell? _ _ hc)).trans hc⟩
def bD(e:TypeId)(size:Nat)(v:Value)(n:Nat)(xs:List Value):bT:=
 ⟨v.ownBlock.toList,λw=>w.ownsRow 0 e size v n xs,λw w' h hs=>by
  refine⟨hs.1,?_⟩;rcases hs.2 with h0| ⟨g,cap,cur,rfl,hb,hg,rest⟩
  ·exact .inl h0
  ·exact .inr ⟨g,cap,cur,rfl,hb,(h g (by simp[Value.ownBlock])).trans hg,rest⟩⟩
theorem DW{w e size n c a n' xs}(h:w.ownsRow 0 e size (.slice a n' c) n xs):Rd w a xs:=by
 intro j u hj;rcases h.2 with⟨hv,rfl⟩ | ⟨g,cap,cur,hv,_,hg,_,_,_,ht⟩
 ·have:xs=[]:=List.eq_nil_of_length_eq_zero (by simpa using h.1)
  grind
 ·cases hv
  have:=h.cells (g:=g) rfl j u hj
  grind[kP]
structure wy (P:Program) (t e:TypeId) (size bytes:Nat) (z:Value):Prop where
 und:P.underlying t=some (.slice e)
 inf:(P.info? e).map (λi=>(i.zero,i.size,i.bytes))=some (some z,size,bytes)
 zc:z.cells.size=size
 pos:0<size
theorem wy.info{P}{t e size bytes:Nat}{z}(h:wy P t e size bytes z):∃i,P.info? e=some i∧i.zero=some z∧i.size=size∧i.bytes=bytes:=by
 obtain⟨i,hi,he⟩:=Option.map_eq_some_iff.1 h.inf
 grind
section
variable {P:Program}
theorem DX{w}{t e size bytes:Nat}{z}(hT:wy P t e size bytes z)(ty){a0 n c0 xs}(hown:w.ownsRow 0 e size (.slice a0 n c0) n xs){ao q c news}(hr:Rd w ao news)(hl:news.length=q*size)(h1:∀u∈news,u.oneCell'=true)(h63:n+q<=maxLen)(hbytes:(n+q)*bytes<=140737488355328):
  ∃a' c' w',(Builtin.append_ #[t,t] ty #[.slice a0 n c0,.slice ao q c]).run P w=.ok (.slice a' (n+q) c') w'∧w'.ownsRow 0 e size (.slice a' (n+q) c') (n+q) (xs++news)∧
   Step (Value.ownBlock (.slice a0 n c0)).toList w w'∧(∀k,(Value.ownBlock (.slice a' (n+q) c'))=some k->(Value.ownBlock (.slice a0 n c0))=some k∨(w.heap.size<=k∧k<w'.heap.size)):=by
 obtain⟨i,hi,hz,rfl,rfl⟩:=hT.info;have ht:=hT.und;have hsz:=hT.pos;have hzs:=hT.zc;have hlen:(xs++news).length=(n+q)*i.size:=by rw[List.length_append,hown.1,hl,Nat.add_mul]
 have nothing:q=0->Src P i.size t (.slice ao q c) 0 [] w->n<=c0->(Builtin.append_ #[t,t] ty #[.slice a0 n c0,.slice ao q c]).run P w=.ok (.slice a0 (n+q) c0) w:=by
  grind[Go.run_append_nothing]
 have same:q=0->n<=c0->Src P i.size t (.slice ao q c) 0 [] w->∃a' c' w',(Builtin.append_ #[t,t] ty #[.slice a0 n c0,.slice ao q c]).run P w=.ok (.slice a' (n+q) c') w'∧w'.ownsRow 0 e i.size (.slice a' (n+q) c') (n+q) (xs++news)∧
   Step (Value.ownBlock (.slice a0 n c0)).toList w w'∧(∀k,(Value.ownBlock (.slice a' (n+q) c'))=some k->(Value.ownBlock (.slice a0 n c0))=some k∨(w.heap.size<=k∧k<w'.heap.size)):=by
  intro hq hle hs;have hrn:=nothing hq hs hle;subst hq
  grind[Step.refl]
 have hle:n<=c0:=by
  rcases hown.2 with⟨hv,rfl⟩ | ⟨g,cap,cur,hv,_,_,hc,_⟩
  all_goals grind
 cases ao with
 |none=>
  have hn:news=[]:=by
   cases news with
   |nil=>rfl
   |cons u l=>obtain⟨_,_,h,_⟩:=hr 0 u rfl;cases h
  grind[Nat.mul_eq_zero,Go.Src.ofNil]
 |some ad=>
  have hnews:∀j u,news[j]? =some u->w.cell? (ad.add j)=some u:=by
   intro j u hj;obtain⟨b,off,hab,hc⟩:=hr j u hj
   grind[kP]
  by_cases hq:q=0
  ·grind[Go.Src.ofSlice]
  ·have grown:∀(old:Nat),old<n+q->∀(row:List Nat),
     (w.drew.alloc (.cells (xs.toArray++news.toArray++Builtin.zeroCells z.cells (grownCap w (n+q) old e- (n+q))) e)).ownsRow 0 e i.size
      (.slice (some ⟨w.heap.size,0,none⟩) (n+q) (grownCap w (n+q) old e)) (n+q) (xs++news)∧
     Step row w (w.drew.alloc (.cells (xs.toArray++news.toArray++Builtin.zeroCells z.cells (grownCap w (n+q) old e- (n+q))) e)):=by
    intro old ho row;have hge:=grownCap_ge w (n+q) old e;have hcm:grownCap w (n+q) old e<=maxLen:=grownCap_le_maxLen w (n+q) old e h63;refine⟨⟨hlen,.inr ⟨w.heap.size,_,_,rfl,Nat.zero_le _,heap_alloc_new w.drew _,hge,hcm,?_,?_⟩⟩,⟨rfl,rfl,rfl,by simp,λk hk _=>_root_.Go.heap_alloc_old w.drew _ hk⟩⟩
    ·simp only[Array.size_append,List.size_toArray,size_zeroCells,hzs,hown.1,hl,<-Nat.add_mul]
     grind
    grind
   have hm63:n+q<=9223372036854775807:=by simp only[maxLen]at h63;omega
   rcases hown.2 with⟨hv,rfl⟩ | ⟨g,cap,cur,hv,hbg,hg,hnc,hcm,hcs,htake⟩
   ·cases hv
    have hx:xs=[]:=List.eq_nil_of_length_eq_zero (by grind);subst hx;have hrr:=run_append_nil (P:=P) w t ty e i z ht hi hz ad q c news hl hnews OM OM (by grind);have hgr:=grown 0 OM (Value.ownBlock (.slice none 0 0)).toList;simp only[Nat.zero_add,List.nil_append,Array.empty_append]at hgr hrr|-;exact⟨_,_,_,hrr,hgr.1,hgr.2,λk hk=> .inr (by
     have hk:w.heap.size=k:=by simpa[Value.ownBlock]using hk
     simp_all)⟩
   ·cases hv
    by_cases hroom:n+q<=c0
    ·have hfit:n*i.size+news.length<=cur.size:=by rw[hl,hcs,<-Nat.add_mul];simp_all[Nat.mul_le_mul_right]
     have hrr:=run_append_room (P:=P) w t ty e i ht hi g n c0 cur hg ad q c news hl hnews h1 hroom hfit;refine⟨_,_,_,hrr,⟨hlen,.inr ⟨g,c0,_,rfl,hbg,setRow_heap w g cur _ e _ hg,hroom,hcm,?_,?_⟩⟩,⟨rfl,rfl,rfl,by simp,λk _ hk=>setRow_other w g k _ (λe=>hk (by simp[Value.ownBlock,e]))⟩,λk hk=> .inl (by simpa[Value.ownBlock]using hk)⟩
     all_goals grind
    ·have holds:∀j u,xs[j]? =some u->w.cell? ((⟨g,0,none⟩:Addr).add j)=some u:=hown.cells (g:=g) rfl
     have hrr:=run_append_grow (P:=P) w t ty e i z ht hi hz ⟨g,0,none⟩ n c0 xs hown.1 holds ad q c news hl hnews OM OM (growslice_fits OM hbytes);have hgr:=grown c0 OM (Value.ownBlock (.slice (some ⟨g,0,none⟩) n c0)).toList;exact⟨_,_,_,hrr,hgr.1,hgr.2,λk hk=> .inr (by
      have hk:w.heap.size=k:=by simpa[Value.ownBlock]using hk
      simp_all)⟩
variable {ops:Array Oper}{Q:Exit->Act->World->Prop}{a:Act}{rest:List Oper}{T:List Nat}{w0 w:World}{m m1:List bT}{dst:Option Tmp}{ty:TypeId}{pos:String}{af:Array Edge}
theorem Inv.BZ(h:Inv T w0 w m)(e size):Inv T w0 w (bD e size (.slice none 0 0) 0 []::m):=
 h.new (.refl _ _) (World.ownsRow_nil w 0 e size) (by simp[bD,Value.ownBlock]) (by grind[bD])
theorem Inv.seq{w'}(h:Inv T w0 w m)(hJ:Inv [] w w' m1):Inv T w0 w' (m1++m):=by
 refine⟨hJ.os.trans h.os,hJ.tape.trans h.tape,hJ.output.trans h.output,Nat.le_trans h.size hJ.size,λk hk Um=>(hJ.old k (Nat.lt_of_lt_of_le hk h.size) SI).trans (h.old k hk Um),λr hr=>?_,λk hk=>?_,?_⟩
 ·rcases List.mem_append.1 hr with hr|hr
  ·grind[Inv.sat]
  ·exact r.loc w w' (λk hk=>hJ.old k (h.mine k (fT.2 ⟨r,hr,hk⟩)).2 SI) (h.sat r hr)
 ·rw[iR]at hk
  rcases List.mem_append.1 hk with hk|hk
  ·obtain⟨h1,h2⟩:=hJ.mine k hk
   rcases h1 with h1|h1
   ·exact⟨.inl (Nat.le_trans h.size h1),h2⟩
   grind
  ·have:=h.mine k hk
   exact⟨this.1,Nat.lt_of_lt_of_le this.2 hJ.size⟩
 ·rw[iR,List.nodup_append]
  refine⟨hJ.apart,h.apart,λk hk j hj=>?_⟩;have h1:=(hJ.mine k hk).1;have h2:=(h.mine j hj).2
  grind
theorem aA{m':bT->List bT}{s x}{t e size bytes n q c0 c:Nat}{z a0 ao xs news}(hI:Inv T w0 w m)(hs:a.eval s=.slice a0 n c0)(hx:a.eval x=.slice ao q c)(hT:wy P t e size bytes z)(hu:∀r',aU (bD e size (.slice a0 n c0) n xs) r' m (m' r'))(hr:Rd w ao news)(hl:news.length=q*size)(h1:∀u∈news,u.oneCell'=true)(h63:n+q<=maxLen)(hbytes:(n+q)*bytes<=140737488355328)(k:∀a' c' w',Inv T w0 w' (m' (bD e size (.slice a' (n+q) c') (n+q) (xs++news)))->wpList P ops Q rest (a.put dst (.slice a' (n+q) c')) w'):
  wpList P ops Q (⟨dst,.call {callee:=.builtin .append,args:= #[s,x],argTypes:= #[t,t]},ty,pos,af,none⟩::rest) a w:=
 wpList_plain rfl λK hK=>by
  have hown:w.ownsRow 0 e size (.slice a0 n c0) n xs:=by
   obtain⟨m1,m2,rfl,_⟩:=(hu (bD e size (.slice a0 n c0) n xs)).split;exact hI.sat (bD e size (.slice a0 n c0) n xs) SI
  obtain⟨a',c',w',hrun,ho,hst,hk⟩:=DX (P:=P) hT ty hown hr hl h1 h63 hbytes (c:=c);unfold Oper.wp execOp;simp only[resolve,invoke,builtin,Sem.run_bind,Sem.run_pure,Result.andThen_ok,List.map_toArray,List.map_cons,List.map_nil,hs,hx,hrun];refine hK _ _ (k a' c' w' (hI.upd (hu _) hst ho (λj hj=>?_) ?_))
  all_goals grind[bD]
theorem il{t e size bytes len:Nat}{z parts cs}(hI:Inv T w0 w m)(hT:wy P t e size bytes z)(hb:len*size<=16777216)(hb2:0<len)(hf:Instr.fill (λi=>some (i*size,size)) ((Array.range (len*size)).map (z.cells[· %z.cells.size]!)) (parts.map λ(i,x)=>(i,a.eval x)).toList=some cs.toArray)(hl:cs.length=len*size)(k:∀b w',Inv T w0 w' (bD e size (.slice (some ⟨b,0,none⟩) len len) len cs::m)->wpList P ops Q rest (a.put dst (.slice (some ⟨b,0,none⟩) len len)) w'):
  wpList P ops Q (⟨dst,.buildSlice t len parts,ty,pos,af,none⟩::rest) a w:=
 wpList_plain rfl λK hK=>by
  obtain⟨i,hi,hz,rfl,rfl⟩:=hT.info;have hpos:=hT.pos;have hne:¬(len*i.size=0):=by
   grind[Nat.mul_eq_zero]
  have hb':¬(len*i.size>2^24):=by omega
  unfold Oper.wp execOp;have hrun:(Instr.buildSlice t len (parts.map λ(i,x)=>(i,a.eval x))).run P w=.ok (.slice (some ⟨w.heap.size,0,none⟩) len len) (w.alloc (.cells cs.toArray e)):=by
   have hzv:(zeroValue e).run P w=.ok z w:=by simp[zeroValue,typeInfo,hi,hz]
   simp only[Instr.buildSlice,Sem.run_bind,run_underlying hT.und,Result.andThen_ok,dX (show(P.info? e).map (·.size)=some i.size by grind),if_neg hb',if_neg hne,Sem.run_pure,hzv,hf];rfl
  simp only[Sem.run_bind,hrun,Result.andThen_ok,Sem.run_pure];refine hK _ _ (k w.heap.size _ ?_);refine hI.new ⟨rfl,rfl,rfl,by simp,λk hk _=>_root_.Go.heap_alloc_old w _ hk⟩ ?_ (by simp[bD,Value.ownBlock]) (by grind[bD]);refine⟨hl,.inr ⟨w.heap.size,len,_,rfl,Nat.zero_le _,heap_alloc_new w _,Nat.le_refl _,?_,?_,?_⟩⟩
  ·simp only[maxLen]
   have:len*1<=len*i.size:=Nat.mul_le_mul_left _ hpos;omega
  all_goals grind
theorem rz{t e bytes:Nat}{x0 v0}(hI:Inv T w0 w m)(hT:wy P t e 1 bytes (.int .i64 0))(h0:a.eval x0=.int .i64 v0)(k:∀b w',Inv T w0 w' (bD e 1 (.slice (some ⟨b,0,none⟩) 1 1) 1 [.int .i64 v0]::m)->wpList P ops Q rest (a.put dst (.slice (some ⟨b,0,none⟩) 1 1)) w'):
  wpList P ops Q (⟨dst,.buildSlice t 1 #[(0,x0)],ty,pos,af,none⟩::rest) a w:=
 il hI hT DC DC (by simp[Instr.fill,h0,Value.cells,show Array.range 1=#[0]from by decide]) (by rfl) k
theorem rA{t e bytes:Nat}{x0 x1 v0 v1}(hI:Inv T w0 w m)(hT:wy P t e 1 bytes (.int .i64 0))(h0:a.eval x0=.int .i64 v0)(h1:a.eval x1=.int .i64 v1)(k:∀b w',Inv T w0 w' (bD e 1 (.slice (some ⟨b,0,none⟩) 2 2) 2 [.int .i64 v0,.int .i64 v1]::m)->wpList P ops Q rest (a.put dst (.slice (some ⟨b,0,none⟩) 2 2)) w'):
  wpList P ops Q (⟨dst,.buildSlice t 2 #[(0,x0),(1,x1)],ty,pos,af,none⟩::rest) a w:=
 il hI hT DC DC (by simp[Instr.fill,h0,h1,Value.cells,show Array.range 2=#[0,1]from by decide]) (by rfl) k
theorem Inv.rd{e size n n' c:Nat}{a' xs}(h:Inv T w0 w m)(hm:bD e size (.slice a' n' c) n xs∈m):Rd w a' xs:=DW (h.sat _ hm)
theorem Inv.LV{a' xs}(h:Inv [] w0 w m)(hr:Rd w0 a' xs):Rd w a' xs:=hr.below h.below
end
theorem Rd.drop{w b off xs}(h:Rd w (some ⟨b,off,none⟩) xs)(k):Rd w (some ⟨b,off+k,none⟩) (xs.drop k):=by
 intro j u hj;rw[List.getElem?_drop]at hj;obtain⟨b',off',ha,hc⟩:=h (k+j) u hj
 grind
theorem Rd.take{w a xs}(h:Rd w a xs)(k):Rd w a (xs.take k):=by
 intro j u hj;rw[List.getElem?_take]at hj
 split at hj
 ·exact h j u hj
 grind
theorem Rd.map_drop{α:Type}{f w b off}{xs:List α}(h:Rd w (some ⟨b,off,none⟩) (xs.map f))(k):Rd w (some ⟨b,off+k,none⟩) ((xs.drop k).map f):=by
 grind[List.map_drop,Rd.drop]
theorem Rd.map_take{α:Type}{f w a}{xs:List α}(h:Rd w a (xs.map f))(k):Rd w a ((xs.take k).map f):=by
 grind[List.map_take,Rd.take]
theorem gZ{T w0 w m}{e size n n' c:Nat}{a' xs}(h:Inv T w0 w m)(hm:bD e size (.slice a' n' c) n xs∈m)(hx:0<xs.length):∃g,a'=some ⟨g,0,none⟩:=by
 have hs:w.ownsRow 0 e size (.slice a' n' c) n xs:=h.sat _ hm;rcases hs.2 with⟨_,rfl⟩ | ⟨g,cap,cur,hv,_⟩
 ·have:=hs.1;omega
 grind
section
variable {P:Program}{ops:Array Oper}{Q:Exit->Act->World->Prop}{a:Act}{rest:List Oper}{T:List Nat}{w0 w:World}{m:List bT}{dst:Option Tmp}{ty:TypeId}{pos:String}{af:Array Edge}
theorem kJ{t e bytes:Nat}{z x0 v0}(hI:Inv T w0 w m)(hT:wy P t e 1 bytes z)(h0:a.eval x0=v0)(hc:v0.cells=#[v0])(k:∀b w',Inv T w0 w' (bD e 1 (.slice (some ⟨b,0,none⟩) 1 1) 1 [v0]::m)->wpList P ops Q rest (a.put dst (.slice (some ⟨b,0,none⟩) 1 1)) w'):
  wpList P ops Q (⟨dst,.buildSlice t 1 #[(0,x0)],ty,pos,af,none⟩::rest) a w:=
 il hI hT DC DC (by simp[Instr.fill,h0,hc,show Array.range 1=#[0]from by decide]) (by rfl) k
theorem CF{t e bytes:Nat}{z x0 x1 x2 x3 v0 v1 v2 v3}(hI:Inv T w0 w m)(hT:wy P t e 1 bytes z)(h0:a.eval x0=v0)(h1:a.eval x1=v1)(h2:a.eval x2=v2)(h3:a.eval x3=v3)(c0:v0.cells=#[v0])(c1:v1.cells=#[v1])(c2:v2.cells=#[v2])(c3:v3.cells=#[v3])(k:∀b w',Inv T w0 w' (bD e 1 (.slice (some ⟨b,0,none⟩) 4 4) 4 [v0,v1,v2,v3]::m)->wpList P ops Q rest (a.put dst (.slice (some ⟨b,0,none⟩) 4 4)) w'):
  wpList P ops Q (⟨dst,.buildSlice t 4 #[(0,x0),(1,x1),(2,x2),(3,x3)],ty,pos,af,none⟩::rest) a w:=
 il hI hT DC DC (by simp[Instr.fill,h0,h1,h2,h3,c0,c1,c2,c3,show Array.range 4=#[0,1,2,3]from by decide]) (by rfl) k
theorem CG{t e bytes:Nat}{z x0 x1 v0 v1}(hI:Inv T w0 w m)(hT:wy P t e 1 bytes z)(h0:a.eval x0=v0)(h1:a.eval x1=v1)(c0:v0.cells=#[v0])(c1:v1.cells=#[v1])(k:∀b w',Inv T w0 w' (bD e 1 (.slice (some ⟨b,0,none⟩) 2 2) 2 [v0,v1]::m)->wpList P ops Q rest (a.put dst (.slice (some ⟨b,0,none⟩) 2 2)) w'):
  wpList P ops Q (⟨dst,.buildSlice t 2 #[(0,x0),(1,x1)],ty,pos,af,none⟩::rest) a w:=
 il hI hT DC DC (by simp[Instr.fill,h0,h1,c0,c1,show Array.range 2=#[0,1]from by decide]) (by rfl) k
theorem kK{t e bytes:Nat}{z x0 ao n c}(hI:Inv T w0 w m)(hT:wy P t e 1 bytes z)(h0:a.eval x0=.slice ao n c)(k:∀b w',Inv T w0 w' (bD e 1 (.slice (some ⟨b,0,none⟩) 1 1) 1 [.slice ao n c]::m)->wpList P ops Q rest (a.put dst (.slice (some ⟨b,0,none⟩) 1 1)) w'):
  wpList P ops Q (⟨dst,.buildSlice t 1 #[(0,x0)],ty,pos,af,none⟩::rest) a w:=kJ hI hT h0 rfl k
theorem CJ{t e bytes:Nat}{z kd x0 x1 x2 x3 v0 v1 v2 v3}(hI:Inv T w0 w m)(hT:wy P t e 1 bytes z)(h0:a.eval x0=.int kd v0)(h1:a.eval x1=.int kd v1)(h2:a.eval x2=.int kd v2)(h3:a.eval x3=.int kd v3)(k:∀b w',Inv T w0 w' (bD e 1 (.slice (some ⟨b,0,none⟩) 4 4) 4 [.int kd v0,.int kd v1,.int kd v2,.int kd v3]::m)->wpList P ops Q rest (a.put dst (.slice (some ⟨b,0,none⟩) 4 4)) w'):
  wpList P ops Q (⟨dst,.buildSlice t 4 #[(0,x0),(1,x1),(2,x2),(3,x3)],ty,pos,af,none⟩::rest) a w:=CF hI hT h0 h1 h2 h3 rfl rfl rfl rfl k
theorem CK{t e bytes:Nat}{z kd x0 x1 v0 v1}(hI:Inv T w0 w m)(hT:wy P t e 1 bytes z)(h0:a.eval x0=.int kd v0)(h1:a.eval x1=.int kd v1)(k:∀b w',Inv T w0 w' (bD e 1 (.slice (some ⟨b,0,none⟩) 2 2) 2 [.int kd v0,.int kd v1]::m)->wpList P ops Q rest (a.put dst (.slice (some ⟨b,0,none⟩) 2 2)) w'):
  wpList P ops Q (⟨dst,.buildSlice t 2 #[(0,x0),(1,x1)],ty,pos,af,none⟩::rest) a w:=CG hI hT h0 h1 rfl rfl k
end
section
variable {P:Program}{ops:Array Oper}{Q:Exit->Act->World->Prop}{a:Act}{rest:List Oper}{T:List Nat}{w0 w:World}{m m':List bT}{dst:Option Tmp}{ty:TypeId}{pos:String}{af:Array Edge}
theorem pg{e size n n' c g off:Nat}{xs}(h:w.ownsRow 0 e size (.slice (some ⟨g,off,none⟩) n' c) n xs):off=0∧n'=n∧∃cur:List Value,w.heap[g]? =some (.cells cur.toArray e (0,0))∧n<=c∧c<=maxLen∧cur.length=c*size∧xs.length=n*size∧cur.take (n*size)=xs:=by
 rcases h.2 with⟨hv,_⟩ | ⟨g',cap,cur,hv,_,hg,h1,h2,h3,h4⟩
 ·cases hv
 ·obtain⟨⟨rfl,rfl,_⟩,rfl,rfl⟩:=hv
  exact⟨rfl,rfl,cur.toList,by omega,h1,h2,by omega,h.1,h4⟩
theorem JM{x}{t k g g0 off n c e size:Nat}{xs vs gd}(hI:Inv T w0 w m)(hx:a.eval x=.pointer (some ⟨g,off,none⟩))(hm:bD e size (.slice (some ⟨g,g0,none⟩) n c) n xs∈m)(hT:gm P t k)(hl:off+k<=xs.length)(hv:(xs.drop off).take k=vs):
  gu P ⟨dst,.load t x,ty,pos,af,gd⟩ a w (.agg vs.toArray):=by
 obtain⟨_,_,cur,hb,h1,h2,h3,h4,h5⟩:=pg (hI.sat _ hm);have hle:xs.length<=cur.length:=by grind
 unfold gu execOp;simp only[hx,Instr.loadAt,Instr.sureAddr,Sem.run_bind,Sem.run_pure,Result.andThen_ok,iT hT hb off OM]
 grind[List.drop_take]
theorem zS{x}{t g g0 off n c e size:Nat}{xs v gd}(hI:Inv T w0 w m)(hx:a.eval x=.pointer (some ⟨g,off,none⟩))(hm:bD e size (.slice (some ⟨g,g0,none⟩) n c) n xs∈m)(hT:iY P t)(hv:xs[off]? =some v):
  gu P ⟨dst,.load t x,ty,pos,af,gd⟩ a w v:=by
 obtain⟨_,_,cur,hb,h1,h2,h3,h4,h5⟩:=pg (hI.sat _ hm);have hc:cur[off]? =some v:=by
  grind
 unfold gu execOp;simp only[hx,Instr.loadAt,Instr.sureAddr,Sem.run_bind,Sem.run_pure,Result.andThen_ok,ik hT hb off hc]
theorem gK{x}{t k g g0 off n c e size:Nat}{xs vs}(hI:Inv T w0 w m)(hx:a.eval x=.pointer (some ⟨g,off,none⟩))(hm:bD e size (.slice (some ⟨g,g0,none⟩) n c) n xs∈m)(hT:gm P t k)(hl:off+k<=xs.length)(hv:(xs.drop off).take k=vs)(K:wpList P ops Q rest (a.put dst (.agg vs.toArray)) w):wpList P ops Q (⟨dst,.load t x,ty,pos,af,none⟩::rest) a w:=av (JM hI hx hm hT hl hv) K
theorem aK{x}{t g g0 off n c e size:Nat}{xs v}(hI:Inv T w0 w m)(hx:a.eval x=.pointer (some ⟨g,off,none⟩))(hm:bD e size (.slice (some ⟨g,g0,none⟩) n c) n xs∈m)(hT:iY P t)(hv:xs[off]? =some v)(K:wpList P ops Q rest (a.put dst v) w):wpList P ops Q (⟨dst,.load t x,ty,pos,af,none⟩::rest) a w:=av (zS hI hx hm hT hv) K
theorem B_{x}{t n b off:Nat}{e zs vs gd}(hI:Inv T w0 w m)(hx:a.eval x=.pointer (some ⟨b,off,none⟩))(hm:ib b e zs∈m)(hT:gm P t n)(hl:off+n<=zs.length)(hv:sub zs off n=vs):
  gu P ⟨dst,.load t x,ty,pos,af,gd⟩ a w (ia vs):=by
 have h:=zL (dst:=dst) (ty:=ty) (pos:=pos) (af:=af) (g:=gd) hI hx hm hT (by grind);have e:(((zs.map (Value.int .i64)).drop off).take n)=vs.map (Value.int .i64):=by grind[sub,List.map_take,List.map_drop]
 rw[e]at h;exact h
theorem lC{x}{t b off:Nat}{e zs v gd}(hI:Inv T w0 w m)(hx:a.eval x=.pointer (some ⟨b,off,none⟩))(hm:ib b e zs∈m)(hT:iY P t)(hl:off<zs.length)(hv:gi zs off=v):
  gu P ⟨dst,.load t x,ty,pos,af,gd⟩ a w (.int .i64 v):=by
 refine uU hI hx hm hT ?_
 grind[gi]
end
class uQ (P:Program) (t:TypeId) (e size bytes:outParam Nat) (z:outParam Value):Prop where out:wy P t e size bytes z
section
variable {P:Program}{ops:Array Oper}{Q:Exit->Act->World->Prop}{a:Act}{rest:List Oper}{T:List Nat}{w0 w:World}{m m':List bT}{dst:Option Tmp}{ty:TypeId}{pos:String}{af:Array Edge}
variable {x y x0 x1 x2:Operand}{t n b off e bytes:Nat}{z:Value}{kd:IntKind}{v0 v1 v2:Int}
theorem Pb(hI:Inv T w0 w m)[hT:uQ P t e 1 bytes z](h0:a.eval x0=.int kd v0:=by exact RF)
  (k:∀b w',Inv T w0 w' (bD e 1 (.slice (some ⟨b,0,none⟩) 1 1) 1 [.int kd v0]::m)->wpList P ops Q rest (a.put dst (.slice (some ⟨b,0,none⟩) 1 1)) w'):
  wpList P ops Q (⟨dst,.buildSlice t 1 #[(0,x0)],ty,pos,af,none⟩::rest) a w:=kJ hI hT.out h0 rfl k
theorem DY(hI:Inv T w0 w m)[hT:uQ P t e 1 bytes z](h0:a.eval x0=.int kd v0:=by exact RF)(h1:a.eval x1=.int kd v1:=by exact RF)
  (k:∀b w',Inv T w0 w' (bD e 1 (.slice (some ⟨b,0,none⟩) 2 2) 2 [.int kd v0,.int kd v1]::m)->wpList P ops Q rest (a.put dst (.slice (some ⟨b,0,none⟩) 2 2)) w'):
  wpList P ops Q (⟨dst,.buildSlice t 2 #[(0,x0),(1,x1)],ty,pos,af,none⟩::rest) a w:=CK hI hT.out h0 h1 k
theorem aiV(hI:Inv T w0 w m)[hT:uQ P t e 1 bytes z](h0:a.eval x0=.int kd v0:=by exact RF)(h1:a.eval x1=.int kd v1:=by exact RF)(h2:a.eval x2=.int kd v2:=by exact RF)
  (k:∀b w',Inv T w0 w' (bD e 1 (.slice (some ⟨b,0,none⟩) 3 3) 3 [.int kd v0,.int kd v1,.int kd v2]::m)->wpList P ops Q rest (a.put dst (.slice (some ⟨b,0,none⟩) 3 3)) w'):
  wpList P ops Q (⟨dst,.buildSlice t 3 #[(0,x0),(1,x1),(2,x2)],ty,pos,af,none⟩::rest) a w:=
 il hI hT.out DC DC (cs:=[.int kd v0,.int kd v1,.int kd v2]) (by simp[Instr.fill,h0,h1,h2,Value.cells,show Array.range 3=#[0,1,2]from by decide]) (by rfl) k
end
section
variable {P:Program}{a:Act}{T:List Nat}{w0 w:World}{m:List bT}{dst:Option Tmp}{ty:TypeId}{pos:String}{af:Array Edge}
variable {x:Operand}{t n b off:Nat}{e:TypeId}{zs:List Int}{cs:List Value}{v:Value}
theorem Xf(hI:Inv T w0 w m)(hx:a.eval x=.pointer (some ⟨b,0,none⟩):=by exact RF)(hm:ib b e zs∈m:=by exact MM)[hT:bP P t n]
  (hl:zs.length=n:=by exact LN):gu P ⟨dst,.load t x,ty,pos,af,none⟩ a w (ia zs):=
 B_ hI hx hm hT.out OM (by grind[sub])
theorem Xg(hI:Inv T w0 w m)(hx:a.eval x=.pointer (some ⟨b,off,none⟩):=by exact RF)(hm:ib b e zs∈m:=by exact MM)[hT:bP P t n]
  (hl:off+n<=zs.length:=by exact LN):gu P ⟨dst,.load t x,ty,pos,af,none⟩ a w (ia (sub zs off n)):=
 B_ hI hx hm hT.out hl rfl
theorem LW(hI:Inv T w0 w m)(hx:a.eval x=.pointer (some ⟨b,off,none⟩):=by exact RF)(hm:ib b e zs∈m:=by exact MM)[hT:aQ P t]
  (hl:off<zs.length:=by exact LN):gu P ⟨dst,.load t x,ty,pos,af,none⟩ a w (.int .i64 (gi zs off)):=
 lC hI hx hm hT.out hl rfl
theorem afX(hI:Inv T w0 w m)(hx:a.eval x=.pointer (some ⟨b,off,none⟩):=by exact RF)(hm:blk b e cs∈m:=by exact MM)[hT:aQ P t]
  (hv:cs[off]? =some v:=by exact RF):gu P ⟨dst,.load t x,ty,pos,af,none⟩ a w v:=
 uU hI hx hm hT.out hv
end
class eD (P:Program) (t i:Nat) (o q:outParam Nat):Prop where out:GU P t i o q
class uf (P:Program) (t:Nat):Prop where out:JK P t
inductive kU:Value->List Int->Prop
 |i (k:Int):kU (.int .i64 k) [k]
 |a (zs:List Int):kU (ia zs) zs
theorem kU.cells{v zs}(h:kU v zs):v.cells=(zs.map (Value.int .i64)).toArray:=by cases h<;>rfl
inductive yP (P:Program) (a:Act) (t n:Nat):List (Nat×Operand)->List (Nat×List Int)->Prop
 |nil:yP P a t n [] []
 |cons {i:Nat} {x:Operand} {o q:Nat} {vs:List Int} {ps:List (Nat×Operand)} {l:List (Nat×List Int)} (h1:kU (a.eval x) vs) [h2:eD P t i o q] (h3:vs.length=q) (h4:o+q<=n) (h:yP P a t n ps l):yP P a t n ((i,x)::ps) ((o,vs)::l)
theorem yQ:∀l zs,Hy (zs.map (Value.int .i64)) (l.map λp=>(p.1,p.2.map (Value.int .i64)))=(ay zs l).map (Value.int .i64)
 | [],_=>rfl
 | (o,vs)::l,zs=>by
  simp only[List.map_cons,Hy,ay,wD];exact yQ l _
theorem yP.toC{P a t n}:∀ {ps l},yP P a t n ps l->DU P a t n ps (l.map λp=>(p.1,p.2.map (Value.int .i64)))
 |_,_,.nil=>trivial
 |_,_,.cons (h2:=h2) h1 h3 h4 h=>⟨h1.cells,by simp_all[eD.out],by grind,h.toC⟩
section
variable {P:Program}{ops:Array Oper}{Q:Exit->Act->World->Prop}{a:Act}{rest:List Oper}{w:World}{dst:Option Tmp}{ty:TypeId}{pos:String}{af:Array Edge}
theorem Xh{t n:Nat}{ps l}[hz:yn P t n][hS:uf P t](hp:yP P a t n ps l)
  (k:wpList P ops Q rest (a.put dst (ia (ay (au n) l))) w):wpList P ops Q (⟨dst,.build t ps.toArray,ty,pos,af,none⟩::rest) a w:=
 jO (z:=ia (au n)) (zc:=(au n).map (Value.int .i64)) _ hz.out rfl (by grind[ag]) hS.out hp.toC (by rw[yQ];exact k)
theorem akW{t n i1 o1 q1:Nat}{x1 v1}[hz:yn P t n][hS:uf P t][f1:eD P t i1 o1 q1]
  (h1:kU (a.eval x1) v1:=by exact IS) (l1:v1.length=q1:=by exact LA) (b1:o1+q1<=n:=by exact WD)
  (k:wpList P ops Q rest (a.put dst (ia (ay (au n) [(o1,v1)]))) w):wpList P ops Q (⟨dst,.build t #[(i1,x1)],ty,pos,af,none⟩::rest) a w:=
 Xh (ps:=[(i1,x1)]) (l:=[(o1,v1)]) (.cons h1 l1 b1 (.nil)) k
theorem akX{t n i1 i2 o1 o2 q1 q2:Nat}{x1 x2 v1 v2}[hz:yn P t n][hS:uf P t][f1:eD P t i1 o1 q1][f2:eD P t i2 o2 q2]
  (h1:kU (a.eval x1) v1:=by exact IS) (l1:v1.length=q1:=by exact LA) (b1:o1+q1<=n:=by exact WD)
  (h2:kU (a.eval x2) v2:=by exact IS) (l2:v2.length=q2:=by exact LA) (b2:o2+q2<=n:=by exact WD)
  (k:wpList P ops Q rest (a.put dst (ia (ay (au n) [(o1,v1),(o2,v2)]))) w):wpList P ops Q (⟨dst,.build t #[(i1,x1),(i2,x2)],ty,pos,af,none⟩::rest) a w:=
 Xh (ps:=[(i1,x1),(i2,x2)]) (l:=[(o1,v1),(o2,v2)]) (.cons h1 l1 b1 (.cons h2 l2 b2 (.nil))) k
theorem akY{t n i1 i2 i3 o1 o2 o3 q1 q2 q3:Nat}{x1 x2 x3 v1 v2 v3}[hz:yn P t n][hS:uf P t][f1:eD P t i1 o1 q1][f2:eD P t i2 o2 q2][f3:eD P t i3 o3 q3]
  (h1:kU (a.eval x1) v1:=by exact IS) (l1:v1.length=q1:=by exact LA) (b1:o1+q1<=n:=by exact WD)
  (h2:kU (a.eval x2) v2:=by exact IS) (l2:v2.length=q2:=by exact LA) (b2:o2+q2<=n:=by exact WD)
  (h3:kU (a.eval x3) v3:=by exact IS) (l3:v3.length=q3:=by exact LA) (b3:o3+q3<=n:=by exact WD)
  (k:wpList P ops Q rest (a.put dst (ia (ay (au n) [(o1,v1),(o2,v2),(o3,v3)]))) w):wpList P ops Q (⟨dst,.build t #[(i1,x1),(i2,x2),(i3,x3)],ty,pos,af,none⟩::rest) a w:=
 Xh (ps:=[(i1,x1),(i2,x2),(i3,x3)]) (l:=[(o1,v1),(o2,v2),(o3,v3)]) (.cons h1 l1 b1 (.cons h2 l2 b2 (.cons h3 l3 b3 (.nil)))) k
theorem akZ{t n i1 i2 i3 i4 o1 o2 o3 o4 q1 q2 q3 q4:Nat}{x1 x2 x3 x4 v1 v2 v3 v4}[hz:yn P t n][hS:uf P t][f1:eD P t i1 o1 q1][f2:eD P t i2 o2 q2][f3:eD P t i3 o3 q3][f4:eD P t i4 o4 q4]
  (h1:kU (a.eval x1) v1:=by exact IS) (l1:v1.length=q1:=by exact LA) (b1:o1+q1<=n:=by exact WD)
  (h2:kU (a.eval x2) v2:=by exact IS) (l2:v2.length=q2:=by exact LA) (b2:o2+q2<=n:=by exact WD)
  (h3:kU (a.eval x3) v3:=by exact IS) (l3:v3.length=q3:=by exact LA) (b3:o3+q3<=n:=by exact WD)
  (h4:kU (a.eval x4) v4:=by exact IS) (l4:v4.length=q4:=by exact LA) (b4:o4+q4<=n:=by exact WD)
  (k:wpList P ops Q rest (a.put dst (ia (ay (au n) [(o1,v1),(o2,v2),(o3,v3),(o4,v4)]))) w):wpList P ops Q (⟨dst,.build t #[(i1,x1),(i2,x2),(i3,x3),(i4,x4)],ty,pos,af,none⟩::rest) a w:=
 Xh (ps:=[(i1,x1),(i2,x2),(i3,x3),(i4,x4)]) (l:=[(o1,v1),(o2,v2),(o3,v3),(o4,v4)]) (.cons h1 l1 b1 (.cons h2 l2 b2 (.cons h3 l3 b3 (.cons h4 l4 b4 (.nil))))) k
theorem ak0{t n i1 i2 i3 i4 i5 o1 o2 o3 o4 o5 q1 q2 q3 q4 q5:Nat}{x1 x2 x3 x4 x5 v1 v2 v3 v4 v5}[hz:yn P t n][hS:uf P t][f1:eD P t i1 o1 q1][f2:eD P t i2 o2 q2][f3:eD P t i3 o3 q3][f4:eD P t i4 o4 q4][f5:eD P t i5 o5 q5]
  (h1:kU (a.eval x1) v1:=by exact IS) (l1:v1.length=q1:=by exact LA) (b1:o1+q1<=n:=by exact WD)
  (h2:kU (a.eval x2) v2:=by exact IS) (l2:v2.length=q2:=by exact LA) (b2:o2+q2<=n:=by exact WD)
  (h3:kU (a.eval x3) v3:=by exact IS) (l3:v3.length=q3:=by exact LA) (b3:o3+q3<=n:=by exact WD)
  (h4:kU (a.eval x4) v4:=by exact IS) (l4:v4.length=q4:=by exact LA) (b4:o4+q4<=n:=by exact WD)
  (h5:kU (a.eval x5) v5:=by exact IS) (l5:v5.length=q5:=by exact LA) (b5:o5+q5<=n:=by exact WD)
  (k:wpList P ops Q rest (a.put dst (ia (ay (au n) [(o1,v1),(o2,v2),(o3,v3),(o4,v4),(o5,v5)]))) w):wpList P ops Q (⟨dst,.build t #[(i1,x1),(i2,x2),(i3,x3),(i4,x4),(i5,x5)],ty,pos,af,none⟩::rest) a w:=
 Xh (ps:=[(i1,x1),(i2,x2),(i3,x3),(i4,x4),(i5,x5)]) (l:=[(o1,v1),(o2,v2),(o3,v3),(o4,v4),(o5,v5)]) (.cons h1 l1 b1 (.cons h2 l2 b2 (.cons h3 l3 b3 (.cons h4 l4 b4 (.cons h5 l5 b5 (.nil)))))) k
end
theorem fD{a b}(h:a=b):Ending.returned (.bool a)=.returned (.bool b):=by rw[h]
theorem acg{k a b}(h:a=b):Ending.returned (.int k a)=.returned (.int k b):=by rw[h]
theorem WT{w0 w}(h:Below w0.heap.size w0 w)(o):Below w0.heap.size w0 (w.alloc o):=h.alloc h.size o
theorem b0(w):Below w.heap.size w w:=Below.refl _ _
theorem bup{w0 w w1}(h0:Below w0.heap.size w0 w)(h:Below w.heap.size w w1):Below w0.heap.size w0 w1:=h0.trans (h.mono h0.size)
namespace C
theorem mixed:prog.follows .mixedOrders=true:=by kernel_rfl
theorem afc:gm prog 28 5:=⟨by kernel_rfl,by kernel_rfl⟩
theorem Hz:gm prog 37 7:=⟨by kernel_rfl,by kernel_rfl⟩
theorem iB:gm prog 38 28:=⟨by kernel_rfl,by kernel_rfl⟩
theorem aiW:gm prog 39 140:=⟨by kernel_rfl,by kernel_rfl⟩
theorem yx:gm prog 41 174:=⟨by kernel_rfl,by kernel_rfl⟩
theorem pz:iY prog 3:=⟨by kernel_rfl,by kernel_rfl⟩
theorem uZ:iY prog 4:=⟨by kernel_rfl,by kernel_rfl⟩
theorem Xi:LQ prog 28 5 3 1:=⟨by kernel_rfl,by kernel_rfl⟩
theorem afd:LQ prog 38 4 37 7:=⟨by kernel_rfl,by kernel_rfl⟩
theorem afe:LQ prog 39 5 38 28:=⟨by kernel_rfl,by kernel_rfl⟩
theorem flat3:Flat prog 3 1 1:=.int KF pz DC
theorem Pf:Flat prog 28 5 2:=uW afc Xi.und Xi.size flat3 DC
theorem Xj:Flat prog 37 7 3:=lV (l:=[(false,0,3),(false,1,3),(false,2,28)]) Hz KF KF KF (.cons flat3 DC (.cons flat3 DC (.cons Pf DC .nil)))
theorem yR:Flat prog 38 28 4:=uW iB afd.und afd.size Xj DC
theorem Xk:Flat prog 39 140 5:=uW aiW afe.und afe.size yR DC
theorem afY:Flat prog 41 174 6:=lV (l:=[(false,0,3),(false,1,38),(false,29,28),(false,34,39)]) yx KF KF KF (.cons flat3 DC (.cons yR DC (.cons Pf DC (.cons Xk DC .nil))))
theorem ach:oW prog 28 5:=⟨Pf.weak DC,by kernel_rfl⟩
theorem aci:oW prog 37 7:=⟨Xj.weak DC,by kernel_rfl⟩
theorem lW:oW prog 38 28:=⟨yR.weak DC,by kernel_rfl⟩
theorem acj:oW prog 39 140:=⟨Xk.weak DC,by kernel_rfl⟩
theorem Sb:oW prog 41 174:=⟨afY.weak DC,by kernel_rfl⟩
end C
namespace B
theorem mixed:prog.follows .mixedOrders=true:=by kernel_rfl
theorem iB:gm prog 91 2:=⟨by kernel_rfl,by kernel_rfl⟩
theorem DZ:gm prog 48 3:=⟨by kernel_rfl,by kernel_rfl⟩
theorem yz:gm prog 93 8:=⟨by kernel_rfl,by kernel_rfl⟩
theorem pz:iY prog 3:=⟨by kernel_rfl,by kernel_rfl⟩
theorem uZ:iY prog 4:=⟨by kernel_rfl,by kernel_rfl⟩
theorem Pg:(prog.info? 91).map (·.zero)=some (some (.agg #[.int .i64 0,.int .i64 0])):=by kernel_rfl
theorem Ph:(prog.info? 93).map (·.zero)=some (some (.agg #[.int .i64 0,.int .i64 0,.int .i64 0,.int .i64 0,.int .i64 0,.int .i64 0,.int .i64 0,.int .i64 0])):=by kernel_rfl
theorem flat3:Flat prog 3 1 1:=.int KF pz DC
theorem yR:Flat prog 91 2 2:=lV (l:=[(false,0,3),(false,1,3)]) iB KF KF KF (.cons flat3 DC (.cons flat3 DC .nil))
theorem Xl:Flat prog 48 3 2:=lV (l:=[(false,0,3),(false,1,3),(false,2,3)]) DZ KF KF KF (.cons flat3 DC (.cons flat3 DC (.cons flat3 DC .nil)))
theorem afZ:Flat prog 93 8 3:=lV (l:=[(false,0,3),(false,1,91),(false,3,91),(false,5,48)]) yz KF KF KF (.cons flat3 DC (.cons yR DC (.cons yR DC (.cons Xl DC .nil))))
theorem lW:oW prog 91 2:=⟨yR.weak DC,by kernel_rfl⟩
theorem ack:oW prog 48 3:=⟨Xl.weak DC,by kernel_rfl⟩
theorem acm:oW prog 93 8:=⟨afZ.weak DC,by kernel_rfl⟩
theorem n_:gm prog 30 7:=⟨by kernel_rfl,by kernel_rfl⟩
theorem aff:gm prog 28 5:=⟨by kernel_rfl,by kernel_rfl⟩
theorem afg:LQ prog 28 5 3 1:=⟨by kernel_rfl,by kernel_rfl⟩
theorem Xm:Flat prog 28 5 2:=uW aff afg.und afg.size flat3 DC
theorem af0:Flat prog 30 7 3:=lV (l:=[(false,0,3),(false,1,3),(false,2,28)]) n_ KF KF KF (.cons flat3 DC (.cons flat3 DC (.cons Xm DC .nil)))
theorem acn:oW prog 28 5:=⟨Xm.weak DC,by kernel_rfl⟩
theorem aco:oW prog 30 7:=⟨af0.weak DC,by kernel_rfl⟩
end B
