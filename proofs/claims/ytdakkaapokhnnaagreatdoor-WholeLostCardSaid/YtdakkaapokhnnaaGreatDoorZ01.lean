/- Contracts of functions. No condition. -/
import Derived.Test.YtdakkaapokhnnaaGreatDoorChecked
import Derived.WalkKit
import Derived.Lib.Hide
import Derived.Deep.Quiet
import Derived.StillTail
import Derived.ProofKit
import Derived.OpenShut
import Derived.SizedLaws
import Derived.Deep.Upon
import Derived.Lib.QuietBelow
import Derived.BigQuiet
namespace Go.Proofs.YtdakkaapokhnnaaGreatDoor
open Go.RowKit Go.Proofs.Tryz
set_option maxRecDepth 100000
set_option maxHeartbeats 6400000
set_option linter.all false
theorem HD{p:Prop}(h:p):RowKit.Hid p:=h
theorem RF{α:Sort _}{a b:α}(h:a=b:=by with_unfolding_all rfl):a=b:=h
theorem OM{p:Prop}(h:p:=by omega):p:=h
theorem KF{α:Sort _}{a b:α}(h:a=b:=by kernel_rfl):a=b:=h
theorem SI{p:Prop}(h:p:=by simp):p:=h
theorem DC{p:Prop}(h:p:=by decide):p:=h
theorem NM{p:Prop}(h:p:=by(repeat(rw[aa]))<;>omega):p:=h
theorem LM{p:Prop}(h:p:=by(repeat(rw[List.length_set]))<;>omega):p:=h
theorem UM{p:Prop}(h:p:=by(repeat(rw[ay]))<;>omega):p:=h
theorem MX{p:Prop}(h:p:=by simp only[maxLen];omega):p:=h
theorem SB{α:Type _}{l l':List α}(h:l.Sublist l':=by((try simp only[List.eraseIdx_cons_succ,List.eraseIdx_cons_zero]);repeat(first|exact List.Sublist.slnil|with_reducible apply List.Sublist.cons_cons|apply List.Sublist.cons))):l.Sublist l':=h
theorem MM{p:Prop}(h:p:=by first|with_reducible exact aA|with_reducible exact aM|with_reducible exact aX|with_reducible exact mU|with_reducible exact mm4|with_reducible exact mm5|with_reducible exact mm6|with_reducible exact mm7|with_reducible exact mm8|with_reducible exact mm9):p:=h
theorem UU{p:Prop}(h:p:=by first|with_reducible exact jy|with_reducible exact iR|with_reducible exact pg|with_reducible exact Ty|with_reducible exact uu4|with_reducible exact uu5|with_reducible exact uu6|with_reducible exact uu7|with_reducible exact uu8|with_reducible exact uu9):p:=h
theorem LN{p:Prop}(h:p:=by(first|omega| (simp only[List.length_set,aa,ay,aY,av,aW,aB,opI,pI,List.length_append,List.length_cons,List.length_nil]<;>omega))):p:=h
theorem QN:(∀(a:Act) (v:Value),a.put none v=a)∧(∀(a:Act) (i:Nat) (v:Value),a.put (some i) v={a with tmps:=a.tmps.setIfInBounds i v})∧(∀(l:List Value) (i:Nat) (v:Value),l.toArray.setIfInBounds i v=(l.set i v).toArray)∧(∀(x y:Value) (l:List Value) (n:Nat),(x::l).set (n+1) y=x::l.set n y)∧(∀(x y:Value) (l:List Value),(x::l).set 0 y=y::l):=⟨λ_ _=>rfl,λ_ _ _=>rfl,λ_ _ _=>List.setIfInBounds_toArray ..,λ_ _ _ _=>rfl,λ_ _ _=>rfl⟩
theorem QS:(∀(x y:Value) (l:List Value),(x::l).set 0 y=y::l)∧(∀(x y:Value) (l:List Value) (n:Nat),(x::l).set (n+1) y=x::l.set n y):=⟨λ_ _ _=>rfl,λ_ _ _ _=>rfl⟩
theorem QG{α:Type _}:(∀(l:List α) (i:Nat) (h:i<l.toArray.size),l.toArray[i]'h=l[i]'h)∧(∀(x:α) (l:List α) (i:Nat) (h:i+1< (x::l).length),(x::l)[i+1]'h=l[i]'(Nat.lt_of_succ_lt_succ h))∧(∀(x:α) (l:List α) (h:0< (x::l).length),(x::l)[0]'h=x):=⟨λ_ _ _=>rfl,λ_ _ _ _=>rfl,λ_ _ _=>rfl⟩
theorem LB{p:Prop}(h:p:=by first|assumption|omega| (simp only[List.length_set,aa,ay,aY,av,aW,aB,opI,pI,List.length_append,List.length_cons,List.length_nil];omega)):p:=h
theorem LA{p:Prop}(h:p:=by first|with_unfolding_all rfl|assumption|omega| (simp only[List.length_set,aa,ay,aY,av,aW,aB,opI,pI,List.length_append,List.length_cons,List.length_nil]<;>omega)):p:=h
theorem IS{p:Prop}(h:p:=by first|with_unfolding_all exact kg.i _|with_unfolding_all exact kg.a _):p:=h
theorem WD{p:Prop}(h:p:=by with_unfolding_all decide):p:=h
theorem EQ{α:Type _}(a:α):∃x,a=x:=⟨_,rfl⟩
theorem EZ{α:Type _}(a:α):∃x,x=a:=⟨_,rfl⟩
theorem EH{α:Type _}(a:α):∃x,Hid (a=x):=⟨_,HD rfl⟩structure aG where
 own:List Nat
 sat:World->Prop
 loc:∀w w':World,(∀k∈own,w'.heap[k]? =w.heap[k]?)->sat w->sat w'
def blk(b:Nat)(e:TypeId)(cs:List Value):aG:=
 ⟨[b],λw=>w.heap[b]? =some (.cells cs.toArray e (0,0)),λw w' h hs=>by rw[h b SI];exact hs⟩
def owned(m:List aG):List Nat:=m.flatMap aG.own
structure Inv (T:List Nat) (w0 w:World) (m:List aG):Prop where
 os:w.os=w0.os
 tape:w.tape=w0.tape
 output:w.output=w0.output
 size:w0.heap.size<=w.heap.size
 old:∀k,k<w0.heap.size->k∉T->w.heap[k]? =w0.heap[k]?
 sat:∀r∈m,r.sat w
 mine:∀k∈owned m,(w0.heap.size<=k∨k∈T)∧k<w.heap.size
 apart:(owned m).Nodup
structure Step (S:List Nat) (w w':World):Prop where
 os:w'.os=w.os
 tape:w'.tape=w.tape
 output:w'.output=w.output
 size:w.heap.size<=w'.heap.size
 same:∀k,k<w.heap.size->k∉S->w'.heap[k]? =w.heap[k]?
theorem Step.refl(S:List Nat)(w:World):Step S w w:=⟨rfl,rfl,rfl,Nat.le_refl _,λ_ _ _=>rfl⟩
theorem Step.drew(S:List Nat)(w:World):Step S w w.drew:=⟨rfl,rfl,rfl,Nat.le_refl _,λ_ _ _=>rfl⟩
theorem Step.of_below{w w':World}(h:Below w.heap.size w w'):Step [] w w':=⟨h.os,h.tape,h.output,h.size,λk hk _=>h.block k hk⟩
theorem Step.below{w w':World}(h:Step [] w w'):Below w.heap.size w w':=⟨h.os,h.tape,h.output,h.size,λk hk=>h.same k hk SI⟩
theorem Step.trans{S:List Nat}{a b c:World}(h:Step S a b)(k:Step S b c):Step S a c:=
 ⟨k.os.trans h.os,k.tape.trans h.tape,k.output.trans h.output,Nat.le_trans h.size k.size,λi hi hn=>(k.same i (Nat.lt_of_lt_of_le hi h.size) hn).trans (h.same i hi hn)⟩
theorem Step.mono{S S':List Nat}{a b:World}(h:Step S a b)(hs:∀k∈S,k∈S'):Step S' a b:=
 ⟨h.os,h.tape,h.output,h.size,λk hk hn=>h.same k hk (λhh=>hn (hs k hh))⟩
def aR(r r':aG):List aG->List aG->Prop
 | [],_=>False
 |x::m,m'=>(x=r∧m'=r'::m)∨∃m'',aR r r' m m''∧m'=x::m''
theorem aR.here{r r':aG}{m:List aG}:aR r r' (r::m) (r'::m):=.inl ⟨rfl,rfl⟩
theorem aR.there{r r' x:aG}{m m':List aG}(h:aR r r' m m'):aR r r' (x::m) (x::m'):=.inr ⟨_,h,rfl⟩
theorem aR.split{r r':aG}:∀ {m m':List aG},aR r r' m m'->∃m1 m2,m=m1++r::m2∧m'=m1++r'::m2
 | [],_,h=>h.elim
 |x::m,m',h=>by
  rcases h with⟨rfl,rfl⟩ | ⟨m'',h,rfl⟩
  ·exact⟨[],m,rfl,rfl⟩
  ·obtain⟨m1,m2,rfl,rfl⟩:=aR.split h
   exact⟨x::m1,m2,rfl,rfl⟩
theorem dE{m:List aG}{k:Nat}:k∈owned m↔∃r∈m,k∈r.own:=by simp[owned]
theorem fA(a b:List aG):owned (a++b)=owned a++owned b:=by simp[owned]
theorem bY(r:aG)(b:List aG):owned (r::b)=r.own++owned b:=by simp[owned]
section
variable {T:List Nat}{w0 w w':World}{m m':List aG}{r r':aG}
theorem Inv.start(w:World):Inv [] w w []:=⟨rfl,rfl,rfl,Nat.le_refl _,λ_ _ _=>rfl,by simp,by simp[owned],by simp[owned]⟩
theorem Inv.upd(h:Inv T w0 w m)(hu:aR r r' m m')(hs:Step r.own w w')(hr:r'.sat w')(ho:∀k∈r'.own,k∈r.own∨(w.heap.size<=k∧k<w'.heap.size))(hn:r'.own.Nodup):Inv T w0 w' m':=by
 obtain⟨m1,m2,rfl,rfl⟩:=hu.split;have hap:=h.apart;have qR:=h.mine;simp only[fA,bY]at hap qR;rw[List.nodup_append,List.nodup_append]at hap;obtain⟨h1,⟨h2,h3,h4⟩,h5⟩:=hap;refine⟨hs.os.trans h.os,hs.tape.trans h.tape,hs.output.trans h.output,Nat.le_trans h.size hs.size,λk hk Mc=>?_,λx hx=>?_,λk hk=>?_,?_⟩
 ·refine(hs.same k (Nat.lt_of_lt_of_le hk h.size) λhkr=>?_).trans (h.old k hk Mc)
  have:=(qR k (by simp[hkr])).1;rcases this with h|h
  ·omega
  ·exact Mc h
 ·have keep:∀y∈m1++m2,y.sat w':=by
   intro y hy;refine y.loc w w' (λk hk=>hs.same k ?_ ?_) (h.sat y (by simp only[List.mem_append,List.mem_cons]at*;rcases hy with hy|hy<;>simp[hy]))
   ·refine(qR k ?_).2
    simp only[List.mem_append]at*;rcases hy with hy|hy
    ·exact .inl (dE.2 ⟨y,hy,hk⟩)
    ·exact .inr (.inr (dE.2 ⟨y,hy,hk⟩))
   ·intro hkr
    rcases List.mem_append.1 hy with hy|hy
    ·exact h5 k (dE.2 ⟨y,hy,hk⟩) k (List.mem_append.2 (.inl hkr)) rfl
    ·exact h4 k hkr k (dE.2 ⟨y,hy,hk⟩) rfl
  simp only[List.mem_append,List.mem_cons]at hx;rcases hx with hx|rfl|hx
  ·exact keep x (by simp[hx])
  ·exact hr
  ·exact keep x (by simp[hx])
 ·simp only[fA,bY,List.mem_append]at hk
  rcases hk with hk|hk|hk
  ·have:=qR k (by simp[hk]);exact⟨this.1,Nat.lt_of_lt_of_le this.2 hs.size⟩
  ·rcases ho k hk with hk|hk
   ·have:=qR k (by simp[hk]);exact⟨this.1,Nat.lt_of_lt_of_le this.2 hs.size⟩
   ·exact⟨.inl (Nat.le_trans h.size hk.1),hk.2⟩
  ·have:=qR k (by simp[hk]);exact⟨this.1,Nat.lt_of_lt_of_le this.2 hs.size⟩
 ·simp only[fA,bY]
  rw[List.nodup_append,List.nodup_append];have new:∀k∈r'.own,k∉r.own->∀j,j<w.heap.size->k≠j:=λk hk hkn j hj=>by
   rcases ho k hk with hk|hk
   ·exact absurd hk hkn
   ·omega
  refine⟨h1,⟨hn,h3,λk hk j hj=>?_⟩,λk hk j hj=>?_⟩
  ·by_cases hkr:k∈r.own
   ·exact h4 k hkr j hj
   ·exact new k hk hkr j (qR j (by simp[hj])).2
  ·rcases List.mem_append.1 hj with hj|hj
   ·by_cases hjr:j∈r.own
    ·exact h5 k hk j (by simp[hjr])
    ·exact(new j hj hjr k (qR k (by simp[hk])).2).symm
   ·exact h5 k hk j (by simp[hj])
theorem Inv.new(h:Inv T w0 w m)(hs:Step [] w w')(hr:r'.sat w')(ho:∀k∈r'.own,w.heap.size<=k∧k<w'.heap.size)(hn:r'.own.Nodup):Inv T w0 w' (r'::m):=by
 refine⟨hs.os.trans h.os,hs.tape.trans h.tape,hs.output.trans h.output,Nat.le_trans h.size hs.size,λk hk Mc=>(hs.same k (Nat.lt_of_lt_of_le hk h.size) SI).trans (h.old k hk Mc),λx hx=>?_,λk hk=>?_,?_⟩
 ·rcases List.mem_cons.1 hx with rfl|hx
  ·exact hr
  ·exact x.loc w w' (λk hk=>hs.same k (h.mine k (dE.2 ⟨x,hx,hk⟩)).2 SI) (h.sat x hx)
 ·rw[bY]at hk
  rcases List.mem_append.1 hk with hk|hk
  ·have:=ho k hk;exact⟨.inl (Nat.le_trans h.size this.1),this.2⟩
  ·have:=h.mine k hk;exact⟨this.1,Nat.lt_of_lt_of_le this.2 hs.size⟩
 ·rw[bY,List.nodup_append]
  refine⟨hn,h.apart,λk hk j hj=>?_⟩;have h1:=ho k hk;have h2:=(h.mine j hj).2;omega
theorem Inv.step(h:Inv T w0 w m)(hs:Step [] w w'):Inv T w0 w' m:=by
 refine⟨hs.os.trans h.os,hs.tape.trans h.tape,hs.output.trans h.output,Nat.le_trans h.size hs.size,λk hk Mc=>(hs.same k (Nat.lt_of_lt_of_le hk h.size) SI).trans (h.old k hk Mc),λx hx=>?_,λk hk=>?_,h.apart⟩
 ·exact x.loc w w' (λk hk=>hs.same k (h.mine k (dE.2 ⟨x,hx,hk⟩)).2 SI) (h.sat x hx)
 ·have:=h.mine k hk;exact⟨this.1,Nat.lt_of_lt_of_le this.2 hs.size⟩
theorem Inv.call(h:Inv T w0 w m)(hb:Below w.heap.size w w'):Inv T w0 w' m:=h.step (.of_below hb)
theorem Inv.drew(h:Inv T w0 w m):Inv T w0 w.drew m:=h.step (.drew _ _)
theorem QA:∀ {m' m:List aG},m'.Sublist m->(owned m').Sublist (owned m):=by
 intro m' m hs;unfold owned
 induction hs with
 |slnil=>exact List.Sublist.refl _
 |cons a _ ih=>simp only[List.flatMap_cons];exact ih.trans (List.sublist_append_right _ _)
 |cons_cons a _ ih=>simp only[List.flatMap_cons];exact List.Sublist.append (List.Sublist.refl _) ih
theorem Inv.sub(h:Inv T w0 w m)(hs:m'.Sublist m):Inv T w0 w m':=by
 have ho:=QA hs;exact⟨h.os,h.tape,h.output,h.size,h.old,λr hr=>h.sat r (hs.subset hr),λk hk=>h.mine k (ho.subset hk),h.apart.sublist ho⟩
theorem Inv.below(h:Inv [] w0 w m):Below w0.heap.size w0 w:=⟨h.os,h.tape,h.output,h.size,λk hk=>h.old k hk SI⟩
theorem Inv.end_(h:Inv T w0 w m):Step T w0 w:=⟨h.os,h.tape,h.output,h.size,λk hk hn=>h.old k hk hn⟩
theorem Inv.cell(h:Inv [] w0 w m){p:Addr}{v:Value}(hc:w0.cell? p=some v):w.cell? p=some v:=(h.below.cell (World.block_lt_of_cell? _ _ hc)).trans hc
theorem Inv.take{b:Nat}{e:TypeId}{cs:List Value}(hb:w.heap[b]? =some (.cells cs.toArray e (0,0))):Inv [b] w w [blk b e cs]:=by
 refine⟨rfl,rfl,rfl,Nat.le_refl _,λ_ _ _=>rfl,?_,?_,by simp[owned,blk]⟩
 ·intro r hr;obtain rfl:=List.mem_singleton.1 hr;exact hb
 ·intro k hk
  simp[owned,blk]at hk;subst hk;exact⟨.inr SI,(Array.getElem?_eq_some_iff.1 hb).1⟩
theorem Inv.blk{b:Nat}{e:TypeId}{cs:List Value}(h:Inv T w0 w m)(hm:blk b e cs∈m):w.heap[b]? =some (.cells cs.toArray e (0,0)):=h.sat _ hm
end
section
variable {P:Program}{w:World}{b:Nat}{e:TypeId}{cs:List Value}{fr:Nat×Nat}
theorem mV(hb:w.heap[b]? =some (.cells cs.toArray e fr))(i:Nat):w.cell? ⟨b,i,none⟩=cs[i]? :=by
 simp[World.cell?,hb]
theorem jE(b off i:Nat):(⟨b,off,none⟩:Addr).add i=⟨b,off+i,none⟩:=by
 unfold Addr.add;split
 ·subst_vars;rfl
 ·rfl
theorem yw(hb:w.heap[b]? =some (.cells cs.toArray e fr))(off:Nat):∀(n i:Nat) (acc:Array Value),off+i+n<=cs.length->
  (loadCellsFrom ⟨b,off,none⟩ i n acc).run P w=.ok (acc++((cs.drop (off+i)).take n).toArray) w
 |0,i,acc,_=>by simp[loadCellsFrom]
 |n+1,i,acc,h=>by
  have hi:off+i<cs.length:=by omega
  have hc:w.cell? ⟨b,off+i,none⟩=some cs[off+i]:=by rw[mV hb];simp[hi]
  rw[loadCellsFrom,Sem.run_bind];have hl:(load ((⟨b,off,none⟩:Addr).add i)).run P w=.ok cs[off+i] w:=by
   rw[jE,load,Sem.run,hc];rfl
  rw[hl,Result.andThen_ok,yw hb off n (i+1) _ OM];congr 1;rw[List.drop_eq_getElem_cons hi,List.take_succ_cons];simp[Nat.add_assoc]
theorem run_loadCells(hb:w.heap[b]? =some (.cells cs.toArray e fr))(off n:Nat)(h:off+n<=cs.length):
  (loadCells ⟨b,off,none⟩ n).run P w=.ok ((cs.drop off).take n).toArray w:=by
 rw[loadCells,yw hb off n 0 #[] OM];simp
def fw(P:Program)(t:TypeId)(n:Nat):Prop:=(match P.underlying t with|some (.struct _) |some (.array _ _)=>true|_=>false)=true∧(P.info? t).map (·.size)=some n
def jg(P:Program)(t:TypeId):Prop:=(match P.underlying t with|some (.struct _) |some (.array _ _) |none=>true|_=>false)=false∧(P.info? t).map (·.size)=some 1
theorem fw.isAgg{t n}(h:fw P t n)(w:World):(isAgg t).run P w=.ok true w:=by
 obtain⟨h1,_⟩:=h;unfold Go.isAgg;cases hu:P.underlying t with
 |none=>simp[hu]at h1
 |some d=>rw[Sem.run_bind,run_underlying hu w];cases d<;>simp_all
theorem jg.isAgg{t}(h:jg P t)(w:World):(isAgg t).run P w=.ok false w:=by
 obtain⟨h1,_⟩:=h;unfold Go.isAgg;cases hu:P.underlying t with
 |none=>simp[hu]at h1
 |some d=>rw[Sem.run_bind,run_underlying hu w];cases d<;>simp_all
theorem fw.size{t n}(h:fw P t n):(P.info? t).map (·.size)=some n:=h.2
theorem jg.size{t}(h:jg P t):(P.info? t).map (·.size)=some 1:=h.2
theorem dH{t n}(h:(P.info? t).map (·.size)=some n)(w:World):(sizeOf t).run P w=.ok n w:=by
 obtain⟨i,hi,rfl⟩:=Option.map_eq_some_iff.1 h;simp[sizeOf,typeInfo,hi]
theorem g_{t n}(hT:fw P t n)(hb:w.heap[b]? =some (.cells cs.toArray e fr))(off:Nat)(h:off+n<=cs.length):
  (loadVar t ⟨b,off,none⟩).run P w=.ok (.agg ((cs.drop off).take n).toArray) w:=by
 rw[loadVar,Sem.run_bind,hT.isAgg,Result.andThen_ok];simp only[if_true];rw[Sem.run_bind,dH hT.2,Result.andThen_ok,Sem.run_bind,run_loadCells hb off n h,Result.andThen_ok];rfl
theorem gI{t v}(hT:jg P t)(hb:w.heap[b]? =some (.cells cs.toArray e fr))(off:Nat)(h:cs[off]? =some v):
  (loadVar t ⟨b,off,none⟩).run P w=.ok v w:=by
 rw[loadVar,Sem.run_bind,hT.isAgg,Result.andThen_ok];simp only[Bool.false_eq_true,if_false];rw[load,Sem.run,mV hb,h];rfl
def splice(cs:List Value)(off:Nat)(vs:List Value):List Value:=cs.take off++vs++cs.drop (off+vs.length)
theorem Al(cs:List Value)(off:Nat)(v:Value)(vs:List Value)(h:off<cs.length):splice (cs.set off v) (off+1) vs=splice cs off (v::vs):=by
 unfold splice;rw[List.take_succ_eq_append_getElem (by simpa using h)];simp only[List.getElem_set_self,List.length_cons,List.append_assoc,List.cons_append,List.nil_append];rw[List.take_set_of_le (Nat.le_refl _),List.drop_set_of_lt OM];rw[show off+1+vs.length=off+(vs.length+1)from by omega]
theorem qc(vs:List Value)(h1:∀u∈vs,u.oneCell'=true):∀(w:World) (cs:List Value) (off i:Nat),w.heap[b]? =some (.cells cs.toArray e (0,0))->off+i+vs.length<=cs.length->
  ∃w',(storeCells ⟨b,off,none⟩ vs i).run P w=.ok () w'∧Step [b] w w'∧w'.heap.size=w.heap.size∧w'.heap[b]? =some (.cells (splice cs (off+i) vs).toArray e (0,0)):=by
 induction vs with
 |nil=>intro w cs off i hb _;exact⟨w,by simp[storeCells],.refl _ _,rfl,by simpa[splice]using hb⟩
 |cons v vs ih=>
  intro w cs off i hb hl;simp only[List.length_cons]at hl;have hi:off+i<cs.length:=by omega
  have hone:=h1 v SI;have hc:w.cell? ⟨b,off+i,none⟩=some cs[off+i]:=by rw[mV hb];simp[hi]
  have hfz:w.frozen? ⟨b,off+i,none⟩=false:=by simp[World.frozen?,hb]
  have hb':(w.setCell ⟨b,off+i,none⟩ v).heap[b]? =some (.cells (cs.set (off+i) v).toArray e (0,0)):=by
   simp[World.setCell,Array.getElem?_modify,hb]
  obtain⟨w',hr,hs,hsz,hh⟩:=ih (λu hu=>h1 u (by simp[hu])) (w.setCell ⟨b,off+i,none⟩ v) (cs.set (off+i) v) off (i+1) hb' (by simp;omega);have hst:Step [b] w (w.setCell ⟨b,off+i,none⟩ v):=⟨rfl,rfl,rfl,by simp[World.setCell],λk _ hk=>by
   simp only[World.setCell,Array.getElem?_modify];rw[if_neg (by simp at hk;omega)]⟩
  refine⟨w',?_,hst.trans hs,by rw[hsz];simp[World.setCell],?_⟩
  ·rw[storeCells,Sem.run_bind]
   have QB:(store ((⟨b,off,none⟩:Addr).add i) v).run P w=.ok () (w.setCell ⟨b,off+i,none⟩ v):=by
    rw[jE,store];cases v<;>first| (simp[Value.oneCell']at hone;done) | (simp[Sem.run,hc,hfz])
   rw[QB,Result.andThen_ok,hr]
  ·rw[hh,show off+(i+1)=off+i+1 from rfl,Al cs (off+i) v vs hi]
theorem tN{t n:Nat}{v:Value}(hn:(P.info? t).map (·.size)=some n)(vs:List Value)(hv:v.cells=vs.toArray)(hl:vs.length=n)(h1:∀u∈vs,u.oneCell'=true)
  (hb:w.heap[b]? =some (.cells cs.toArray e (0,0))) (off:Nat) (hoff:off+n<=cs.length):
  ∃w',(storeVar t ⟨b,off,none⟩ v).run P w=.ok () w'∧Step [b] w w'∧w'.heap.size=w.heap.size∧w'.heap[b]? =some (.cells (splice cs off vs).toArray e (0,0)):=by
 obtain⟨w',hr,hs,hsz,hh⟩:=qc (P:=P) vs h1 w cs off 0 hb OM;refine⟨w',?_,hs,hsz,hh⟩;rw[storeVar,Sem.run_bind,dH hn,Result.andThen_ok,hv];simp only[List.size_toArray,hl,ne_eq,not_true_eq_false,if_false];exact hr
end
section
variable {α:Type _}
theorem aA{x:α}{l:List α}:x∈x::l:=List.mem_cons_self
theorem aM{x a0:α}{l:List α}:x∈a0::x::l:=List.mem_cons_of_mem _ (List.mem_cons_self)
theorem aX{x a0 a1:α}{l:List α}:x∈a0::a1::x::l:=List.mem_cons_of_mem _ (List.mem_cons_of_mem _ (List.mem_cons_self))
theorem mU{x a0 a1 a2:α}{l:List α}:x∈a0::a1::a2::x::l:=List.mem_cons_of_mem _ (List.mem_cons_of_mem _ (List.mem_cons_of_mem _ (List.mem_cons_self)))
theorem mm4{x a0 a1 a2 a3:α}{l:List α}:x∈a0::a1::a2::a3::x::l:=List.mem_cons_of_mem _ (List.mem_cons_of_mem _ (List.mem_cons_of_mem _ (List.mem_cons_of_mem _ (List.mem_cons_self))))
theorem mm5{x a0 a1 a2 a3 a4:α}{l:List α}:x∈a0::a1::a2::a3::a4::x::l:=List.mem_cons_of_mem _ (List.mem_cons_of_mem _ (List.mem_cons_of_mem _ (List.mem_cons_of_mem _ (List.mem_cons_of_mem _ (List.mem_cons_self)))))
theorem mm6{x a0 a1 a2 a3 a4 a5:α}{l:List α}:x∈a0::a1::a2::a3::a4::a5::x::l:=List.mem_cons_of_mem _ (List.mem_cons_of_mem _ (List.mem_cons_of_mem _ (List.mem_cons_of_mem _ (List.mem_cons_of_mem _ (List.mem_cons_of_mem _ (List.mem_cons_self))))))
theorem mm7{x a0 a1 a2 a3 a4 a5 a6:α}{l:List α}:x∈a0::a1::a2::a3::a4::a5::a6::x::l:=List.mem_cons_of_mem _ (List.mem_cons_of_mem _ (List.mem_cons_of_mem _ (List.mem_cons_of_mem _ (List.mem_cons_of_mem _ (List.mem_cons_of_mem _ (List.mem_cons_of_mem _ (List.mem_cons_self)))))))
theorem mm8{x a0 a1 a2 a3 a4 a5 a6 a7:α}{l:List α}:x∈a0::a1::a2::a3::a4::a5::a6::a7::x::l:=List.mem_cons_of_mem _ (List.mem_cons_of_mem _ (List.mem_cons_of_mem _ (List.mem_cons_of_mem _ (List.mem_cons_of_mem _ (List.mem_cons_of_mem _ (List.mem_cons_of_mem _ (List.mem_cons_of_mem _ (List.mem_cons_self))))))))
theorem mm9{x a0 a1 a2 a3 a4 a5 a6 a7 a8:α}{l:List α}:x∈a0::a1::a2::a3::a4::a5::a6::a7::a8::x::l:=List.mem_cons_of_mem _ (List.mem_cons_of_mem _ (List.mem_cons_of_mem _ (List.mem_cons_of_mem _ (List.mem_cons_of_mem _ (List.mem_cons_of_mem _ (List.mem_cons_of_mem _ (List.mem_cons_of_mem _ (List.mem_cons_of_mem _ (List.mem_cons_self)))))))))
end
theorem jy{r r':aG}{l:List aG}:aR r r' (r::l) (r'::l):=aR.here
theorem iR{r r' a0:aG}{l:List aG}:aR r r' (a0::r::l) (a0::r'::l):=aR.there (aR.here)
theorem pg{r r' a0 a1:aG}{l:List aG}:aR r r' (a0::a1::r::l) (a0::a1::r'::l):=aR.there (aR.there (aR.here))
theorem Ty{r r' a0 a1 a2:aG}{l:List aG}:aR r r' (a0::a1::a2::r::l) (a0::a1::a2::r'::l):=aR.there (aR.there (aR.there (aR.here)))
theorem uu4{r r' a0 a1 a2 a3:aG}{l:List aG}:aR r r' (a0::a1::a2::a3::r::l) (a0::a1::a2::a3::r'::l):=aR.there (aR.there (aR.there (aR.there (aR.here))))
theorem uu5{r r' a0 a1 a2 a3 a4:aG}{l:List aG}:aR r r' (a0::a1::a2::a3::a4::r::l) (a0::a1::a2::a3::a4::r'::l):=aR.there (aR.there (aR.there (aR.there (aR.there (aR.here)))))
theorem uu6{r r' a0 a1 a2 a3 a4 a5:aG}{l:List aG}:aR r r' (a0::a1::a2::a3::a4::a5::r::l) (a0::a1::a2::a3::a4::a5::r'::l):=aR.there (aR.there (aR.there (aR.there (aR.there (aR.there (aR.here))))))
theorem uu7{r r' a0 a1 a2 a3 a4 a5 a6:aG}{l:List aG}:aR r r' (a0::a1::a2::a3::a4::a5::a6::r::l) (a0::a1::a2::a3::a4::a5::a6::r'::l):=aR.there (aR.there (aR.there (aR.there (aR.there (aR.there (aR.there (aR.here)))))))
theorem uu8{r r' a0 a1 a2 a3 a4 a5 a6 a7:aG}{l:List aG}:aR r r' (a0::a1::a2::a3::a4::a5::a6::a7::r::l) (a0::a1::a2::a3::a4::a5::a6::a7::r'::l):=aR.there (aR.there (aR.there (aR.there (aR.there (aR.there (aR.there (aR.there (aR.here))))))))
theorem uu9{r r' a0 a1 a2 a3 a4 a5 a6 a7 a8:aG}{l:List aG}:aR r r' (a0::a1::a2::a3::a4::a5::a6::a7::a8::r::l) (a0::a1::a2::a3::a4::a5::a6::a7::a8::r'::l):=aR.there (aR.there (aR.there (aR.there (aR.there (aR.there (aR.there (aR.there (aR.there (aR.here)))))))))
section
variable {P:Program}{ops:Array Oper}{Q:Exit->Act->World->Prop}{a:Act}{rest:List Oper}{T:List Nat}{w0 w:World}{m m':List aG}{dst:Option Tmp}{ty:TypeId}{pos:String}{af:Array Edge}
def fP(P:Program)(o:Oper)(a:Act)(w:World)(v:Value):Prop:=(execOp a.eval o).run P w=.ok (.value v) w
theorem au{op:Op}{v:Value}(h:fP P ⟨dst,op,ty,pos,af,none⟩ a w v)(k:wpList P ops Q rest (a.put dst v) w):wpList P ops Q (⟨dst,op,ty,pos,af,none⟩::rest) a w:=
 wpList_plain rfl λK hK=>by
  unfold Oper.wp;rw[h];exact hK _ _ k
theorem QC{op:Op}{j:Nat}{want:Bool}(h:yielded ops a.tmps j=some want)(k:wpList P ops Q (⟨dst,op,ty,pos,af,none⟩::rest) a w):wpList P ops Q (⟨dst,op,ty,pos,af,some (j,want)⟩::rest) a w:=by
 unfold wpList at k|-;rw[if_pos (by simp[Region.wanted])]at k;rw[if_pos (by simp[Region.wanted,h])];exact k
theorem yx{x:Operand}{t n b off:Nat}{e:TypeId}{cs:List Value}{g:Option (Nat×Bool)}(hI:Inv T w0 w m)(hx:a.eval x=.pointer (some ⟨b,off,none⟩))(hm:blk b e cs∈m)(hT:fw P t n)(hl:off+n<=cs.length):
  fP P ⟨dst,.load t x,ty,pos,af,g⟩ a w (.agg ((cs.drop off).take n).toArray):=by
 unfold fP execOp;simp only[hx,Instr.loadAt,Instr.sureAddr,Sem.run_bind,Sem.run_pure,Result.andThen_ok,g_ hT (hI.blk hm) off hl]
theorem tO{x:Operand}{t b off:Nat}{e:TypeId}{cs:List Value}{v:Value}{g:Option (Nat×Bool)}(hI:Inv T w0 w m)(hx:a.eval x=.pointer (some ⟨b,off,none⟩))(hm:blk b e cs∈m)(hT:jg P t)(hv:cs[off]? =some v):
  fP P ⟨dst,.load t x,ty,pos,af,g⟩ a w v:=by
 unfold fP execOp;simp only[hx,Instr.loadAt,Instr.sureAddr,Sem.run_bind,Sem.run_pure,Result.andThen_ok,gI hT (hI.blk hm) off hv]
theorem bL{x:Operand}{t n b off:Nat}{e:TypeId}{cs:List Value}(hI:Inv T w0 w m)(hx:a.eval x=.pointer (some ⟨b,off,none⟩))(hm:blk b e cs∈m)(hT:fw P t n)(hl:off+n<=cs.length)
  (k:wpList P ops Q rest (a.put dst (.agg ((cs.drop off).take n).toArray)) w):wpList P ops Q (⟨dst,.load t x,ty,pos,af,none⟩::rest) a w:=au (yx hI hx hm hT hl) k
theorem aS{x:Operand}{t b off:Nat}{e:TypeId}{cs:List Value}{v:Value}(hI:Inv T w0 w m)(hx:a.eval x=.pointer (some ⟨b,off,none⟩))(hm:blk b e cs∈m)(hT:jg P t)(hv:cs[off]? =some v)
  (k:wpList P ops Q rest (a.put dst v) w):wpList P ops Q (⟨dst,.load t x,ty,pos,af,none⟩::rest) a w:=au (tO hI hx hm hT hv) k
theorem bN{x:Operand}{t:TypeId}{cs:List Value}(hI:Inv T w0 w m)(hcs:(a.eval x).cells=cs.toArray)
  (k:∀b w',Inv T w0 w' (blk b t cs::m)->wpList P ops Q rest (a.put dst (.pointer (some ⟨b,0,none⟩))) w'):wpList P ops Q (⟨dst,.box t x,ty,pos,af,none⟩::rest) a w:=
 wpList_plain rfl λK hK=>by
  unfold Oper.wp execOp;simp only[Instr.box,newVar,newRow,newObj,hcs,Sem.run_bind,Sem.run_pure];refine hK _ _ (k w.heap.size {w with heap:=w.heap.push (.cells cs.toArray t)} ?_);exact hI.new ⟨rfl,rfl,rfl,by simp,λk hk _=>by simp[Array.getElem?_push,Nat.ne_of_lt hk]⟩ (by show(w.heap.push _)[w.heap.size]? =_;simp) (by simp[blk]) (by simp[blk])
theorem aL{t:TypeId}{z:Value}{cs:List Value}(hI:Inv T w0 w m)(hz:(P.info? t).map (·.zero)=some (some z))(hcs:z.cells=cs.toArray)
  (k:∀b w',Inv T w0 w' (blk b t cs::m)->wpList P ops Q rest (a.put dst (.pointer (some ⟨b,0,none⟩))) w'):wpList P ops Q (⟨dst,.alloc t,ty,pos,af,none⟩::rest) a w:=
 wpList_plain rfl λK hK=>by
  obtain⟨i,hi,hz'⟩:=Option.map_eq_some_iff.1 hz;have hzv:(zeroValue t).run P w=.ok z w:=by simp[zeroValue,typeInfo,hi,hz']
  unfold Oper.wp execOp;simp only[Instr.alloc,Sem.run_bind,hzv,Result.andThen_ok,newVar,newRow,newObj,hcs,Sem.run_pure];refine hK _ _ (k w.heap.size {w with heap:=w.heap.push (.cells cs.toArray t)} ?_);exact hI.new ⟨rfl,rfl,rfl,by simp,λk hk _=>by simp[Array.getElem?_push,Nat.ne_of_lt hk]⟩ (by show(w.heap.push _)[w.heap.size]? =_;simp) (by simp[blk]) (by simp[blk])
theorem aN{x y:Operand}{t n b off:Nat}{e:TypeId}{cs vs:List Value}(hI:Inv T w0 w m)(hx:a.eval x=.pointer (some ⟨b,off,none⟩))(hv:(a.eval y).cells=vs.toArray)(hu:aR (blk b e cs) (blk b e (splice cs off vs)) m m')
  (hn:(P.info? t).map (·.size)=some n) (hl:vs.length=n) (hoff:off+n<=cs.length) (h1:∀u∈vs,u.oneCell'=true)
  (k:∀w',Inv T w0 w' m'->wpList P ops Q rest (a.put dst undef) w'):wpList P ops Q (⟨dst,.store t x y,ty,pos,af,none⟩::rest) a w:=
 wpList_plain rfl λK hK=>by
  have hb:w.heap[b]? =some (.cells cs.toArray e (0,0)):=by
   obtain⟨m1,m2,rfl,_⟩:=hu.split;exact hI.blk SI
  obtain⟨w',hr,hs,hsz,hh⟩:=tN (P:=P) hn vs hv hl h1 hb off hoff;unfold Oper.wp execOp;simp only[hx,Instr.storeAt,Instr.sureAddr,Sem.run_bind,Sem.run_pure,Result.andThen_ok,hr];exact hK _ _ (k w' (hI.upd hu hs hh (λk hk=> .inl hk) (by simp[blk])))
theorem oW{fn:Func}{p u:Tmp}{t n b:Nat}{e:TypeId}{cs:List Value}{tmps:Array Value}(hI:Inv T w0 w m)(h:fn.results=#[.cell p t,.tmp u])(hp:tmps.getD p undef=.pointer (some ⟨b,0,none⟩))
  (hm:blk b e cs∈m) (hT:fw P t n) (hl:cs.length=n):(results fn tmps).run P w=.ok (.tuple #[.agg cs.toArray,tmps.getD u undef]) w:=by
 rw[results_cell_tmp h,hp];simp only[asAddr,Sem.run_pure,Result.andThen_ok,g_ hT (hI.blk hm) 0 OM];subst hl;simp
theorem I7{fn:Func}{p:Tmp}{t n b:Nat}{e:TypeId}{cs:List Value}{tmps:Array Value}(hI:Inv T w0 w m)(h:fn.results=#[.cell p t])(hp:tmps.getD p undef=.pointer (some ⟨b,0,none⟩))
  (hm:blk b e cs∈m) (hT:fw P t n) (hl:cs.length=n):(results fn tmps).run P w=.ok (.agg cs.toArray) w:=by
 have hp':tmps[p]?.getD undef=.pointer (some ⟨b,0,none⟩):=by simpa using hp
 subst hl;have:=g_ hT (hI.blk hm) 0 OM;simp[results,h,hp',asAddr,this]
end
section
variable {P:Program}{ops:Array Oper}
def vS(A:Act)(C:World->Prop):Exit->Act->World->Prop:=λe a w=>e=.normal∧a=A∧C w
def wN(A:Act)(C:World->Prop):Act->World->Prop:=λa w=>a=A∧C w
theorem TA{A a:Act}{dst:Option Tmp}{v u:Value}(hsz:a.tmps.size=A.tmps.size)(h:A.put dst u=A.put dst v):a.put dst u=a.put dst v:=by
 cases dst with
 |none=>rfl
 |some d=>
  simp only[Act.put,Act.mk.injEq,and_true]at h|-;rcases Nat.lt_or_ge d A.tmps.size with hd|hd
  ·have:=congrArg (λx=>x[d]?) h
   simp[hd]at this;rw[this]
  ·have hd':a.tmps.size<=d:=by rw[hsz];exact hd
   rw[Array.setIfInBounds_eq_of_size_le hd',Array.setIfInBounds_eq_of_size_le hd']
theorem Am{o:Oper}{a A:Act}{w:World}{C:World->Prop}{v:Value}{K:Act->World->Prop}{Q:Exit->Act->World->Prop}(he:execOp a.eval o=execOp A.eval o)(hsz:a.tmps.size=A.tmps.size)
  (h:o.wp P A w (wN (A.put o.dst v) C) (λ_ _ _=>False)) (hk:∀w',C w'->K (a.put o.dst v) w'):o.wp P a w K Q:=by
 unfold Oper.wp at h|-;rw[he];generalize(execOp A.eval o).run P w=r at h;have fin:∀u w',wN (A.put o.dst v) C (A.put o.dst u) w'->K (a.put o.dst u) w':=λu w' hh=>by
  rw[TA hsz hh.1];exact hk w' hh.2
 cases r with
 |ok n w'=>
  cases n<;>simp only[Oper.upon]at h|-
  case value u=>exact fin u w' h
  case skip=>exact fin undef w' h
  case enter f args=>
   refine h.mono λe w'' hh=>?_
   cases e with
   |returned u=>exact fin u w'' hh
   |panicked c=>exact hh.elim
   |outgrown=>obtain⟨_,_,hh⟩:=hh;exact hh.elim
  case defer d=>
   have:=congrArg Act.defers h.1;cases ho:o.dst<;>rw[ho]at this<;>simp[Act.put]at this
  case row r args=>exact h.mono λu w'' hh=>fin u w'' hh
 |halt x w'=>cases x<;>simp only[Oper.upon]at h
theorem QD{o:Oper}{a:Act}{w:World}{A:Act}{C:World->Prop}(hw:Region.wanted o (yielded ops a.tmps)=true)(h:wpList P ops (vS A C) [o] a w):o.wp P a w (wN A C) (λ_ _ _=>False):=by
 unfold wpList at h;rw[if_pos hw]at h;rcases h with h| ⟨_,a',w',h⟩
 ·unfold Oper.wp at h|-
  generalize(execOp a.eval o).run P w=r at h;have one:∀a w,wpList P ops (vS A C) [] a w->wN A C a w:=λa w hh=>hh.2
  cases r with
  |ok n w'=>
   cases n<;>simp only[Oper.upon]at h|-
   case value u=>exact one _ _ h
   case skip=>exact one _ _ h
   case defer d=>exact one _ _ h
   case enter f args=>
    refine h.mono λe w'' hh=>?_
    cases e with
    |returned u=>exact one _ _ hh
    |panicked c=>cases hh.1
    |outgrown=>obtain⟨_,_,hh⟩:=hh;cases hh.1
   case row r args=>exact h.mono λu w'' hh=>one _ _ hh
  |halt x w'=>cases x<;>simp only[Oper.upon]at h|-<;>(cases h.1;done)
 ·cases h.1
def zC(ops:Array Oper):Nat->Nat->Nat->Bool
 |0,_,_=>false
 |f+1,k,j=>match ops[k]? with
  |none=>false
  |some o=>o.after.toList.any λe=>Region.binds .any e&&(e.on==j||zC ops f e.on j)
def ordered(ops:Array Oper)(k s:Nat):Bool:=if s<k then zC ops ops.size k s else zC ops ops.size s k
def rd(ops:Array Oper)(S:List Nat)(k:Nat):Bool:=S.all λs=>s==k||ordered ops k s
def TB(ops:Array Oper)(k:Nat)(o:Oper):Bool:=(o.looksAt ops).all λt=>(List.range ops.size).all λj=>
 !((ops[j]?).bind (·.dst)==some t) || (decide (j<k)&&zC ops ops.size k j)
def TC(ops:Array Oper):Bool:=(List.range ops.size).all λi=>(List.range ops.size).all λj=>i==j|| ((ops[i]?).bind (·.dst)).isNone || !((ops[i]?).bind (·.dst)==(ops[j]?).bind (·.dst))
def O0(ops:Array Oper)(S:List Nat):Bool:=Region.noSelect ops&&TC ops&&S.all (rd ops S)&&
 (List.range ops.size).all λk=>match ops[k]? with
  |none=>true
  |some o=>(o.after.all λe=> !Region.binds .any e||decide (e.on<k))&&TB ops k o
def kF(P:Program)(ops:Array Oper)(S:List Nat)(E:World->Prop)(F:(World->Prop)->Act->Prop):List Oper->Nat->(World->Prop)->Act->Prop
 | [],_,C,a=>F C a
 |o::rest,k,C,a=>if Region.wanted o (yielded ops a.tmps)then
   ∃(v:Value) (C':World->Prop),kF P ops S E F rest (k+1) C' (a.put o.dst v)∧
    ((S.elem k=false∧C'=C∧∀D:World->Prop,∀w,D w->E w->o.wp P a w (wN (a.put o.dst v) D) (λ_ _ _=>False))∨
     (rd ops S k=true∧(C'=C∨(k∈S∧∀w,C' w->E w))∧∀w,C w->o.wp P a w (wN (a.put o.dst v) C') (λ_ _ _=>False)))
  else kF P ops S E F rest (k+1) C (a.put o.dst undef)
theorem uT{S:List Nat}{E:World->Prop}{F:(World->Prop)->Act->Prop}:∀(l:List Oper) (k:Nat) (C:World->Prop) (a:Act),(∀j,l[j]? =ops[k+j]?)->kF P ops S E F l k C a->
  ∃(A:Nat->Act) (Cs:Nat->World->Prop) (vals:Nat->Value),A k=a∧Cs k=C∧F (Cs (k+l.length)) (A (k+l.length))∧
   ∀i,k<=i->i<k+l.length->∀o,ops[i]? =some o->A (i+1)=(A i).put o.dst (vals i)∧
    if Region.wanted o (yielded ops (A i).tmps)then
     ((S.elem i=false∧Cs (i+1)=Cs i∧∀D:World->Prop,∀w,D w->E w->o.wp P (A i) w (wN ((A i).put o.dst (vals i)) D) (λ_ _ _=>False))∨
      (rd ops S i=true∧(Cs (i+1)=Cs i∨(i∈S∧∀w,Cs (i+1) w->E w))∧∀w,Cs i w->o.wp P (A i) w (wN ((A i).put o.dst (vals i)) (Cs (i+1))) (λ_ _ _=>False)))
    else Cs (i+1)=Cs i∧vals i=undef
 | [],k,C,a,_,h=>⟨λ_=>a,λ_=>C,λ_=>undef,rfl,rfl,h,λi h1 h2=>by simp at h2;omega⟩
 |o::l,k,C,a,hl,h=>by
  have h0:ops[k]? =some o:=by simpa using(hl 0).symm
  have hl':∀j,l[j]? =ops[k+1+j]? :=λj=>by have:=hl (j+1);simpa[Nat.add_assoc,Nat.add_comm 1 j]using this
  have key:∀(v:Value) (C':World->Prop),kF P ops S E F l (k+1) C' (a.put o.dst v)->
    (if Region.wanted o (yielded ops a.tmps)then
     ((S.elem k=false∧C'=C∧∀D:World->Prop,∀w,D w->E w->o.wp P a w (wN (a.put o.dst v) D) (λ_ _ _=>False))∨
      (rd ops S k=true∧(C'=C∨(k∈S∧∀w,C' w->E w))∧∀w,C w->o.wp P a w (wN (a.put o.dst v) C') (λ_ _ _=>False)))
    else C'=C∧v=undef)->
    ∃(A:Nat->Act) (Cs:Nat->World->Prop) (vals:Nat->Value),A k=a∧Cs k=C∧F (Cs (k+(o::l).length)) (A (k+(o::l).length))∧
     ∀i,k<=i->i<k+(o::l).length->∀o',ops[i]? =some o'->A (i+1)=(A i).put o'.dst (vals i)∧
      if Region.wanted o' (yielded ops (A i).tmps)then
       ((S.elem i=false∧Cs (i+1)=Cs i∧∀D:World->Prop,∀w,D w->E w->o'.wp P (A i) w (wN ((A i).put o'.dst (vals i)) D) (λ_ _ _=>False))∨
        (rd ops S i=true∧(Cs (i+1)=Cs i∨(i∈S∧∀w,Cs (i+1) w->E w))∧∀w,Cs i w->o'.wp P (A i) w (wN ((A i).put o'.dst (vals i)) (Cs (i+1))) (λ_ _ _=>False)))
      else Cs (i+1)=Cs i∧vals i=undef:=by
   intro v C' hr hf;obtain⟨A,Cs,vals,hA,hC,hF,hs⟩:=uT l (k+1) C' _ hl' hr;refine⟨λi=>if i=k then a else A i,λi=>if i=k then C else Cs i,λi=>if i=k then v else vals i,by simp,by simp,?_,?_⟩
   ·have e:k+(o::l).length=k+1+l.length:=by simp;omega
    have hne:¬(k+1+l.length=k):=by omega
    simp only[e,hne,if_false];exact hF
   ·intro i h1 h2 o' ho'
    by_cases hik:i=k
    ·subst hik
     obtain rfl:o=o':=Option.some.inj (h0.symm.trans ho');have hne:¬(i+1=i):=by omega
     simp only[hne,if_false,if_true,hA,hC];exact⟨trivial,hf⟩
    ·have hne:¬(i+1=k):=by omega
     simp only[hik,hne,if_false];exact hs i OM (by simp at h2;omega) o' ho'
  unfold kF at h;by_cases hw:Region.wanted o (yielded ops a.tmps)=true
  ·rw[if_pos hw]at h
   obtain⟨v,C',hr,hf⟩:=h;exact key v C' hr (by rw[if_pos hw];exact hf)
  ·rw[if_neg hw]at h
   exact key undef C h (by rw[if_neg hw];exact⟨rfl,rfl⟩)
def Closed(ops:Array Oper)(L:Array Bool):Prop:=L.size=ops.size∧∀j oj,ops[j]? =some oj->L.getD j false=true->∀e∈oj.after,Region.binds .any e=true->L.getD e.on false=true
theorem nP{L:Array Bool}(hc:Closed ops L):∀(f k j:Nat),zC ops f k j=true->(∃o,ops[k]? =some o∧∀e∈o.after,Region.binds .any e=true->L.getD e.on false=true)->L.getD j false=true
 |0,_,_,h,_=>by simp[zC]at h
 |f+1,k,j,h,⟨o,ho,hall⟩=>by
  simp only[zC,ho]at h;obtain⟨e,he,hb⟩:=List.any_eq_true.1 h;simp only[Bool.and_eq_true,Bool.or_eq_true,beq_iff_eq]at hb;have hl:=hall e (by simpa using he) hb.1;rcases hb.2 with h1|h1
  ·rw[<-h1];exact hl
  ·refine nP hc f e.on j h1 ?_
   have hlt:e.on<ops.size:=by
    rw[<-hc.1];rcases Nat.lt_or_ge e.on L.size with h'|h'
    ·exact h'
    ·simp[Array.getElem?_eq_none h']at hl
   exact⟨ops[e.on],by simp[hlt],λe' he' hb'=>hc.2 e.on _ (by simp[hlt]) hl e' he' hb'⟩
theorem EL{L:Array Bool}(hc:Closed ops L){f k j:Nat}(h:zC ops f k j=true)(hk:L.getD k false=true):L.getD j false=true:=by
 refine nP hc f k j h ?_;have hlt:k<ops.size:=by
  rw[<-hc.1];rcases Nat.lt_or_ge k L.size with h'|h'
  ·exact h'
  ·simp[Array.getElem?_eq_none h']at hk
 exact⟨ops[k],by simp[hlt],λe' he' hb'=>hc.2 k _ (by simp[hlt]) hk e' he' hb'⟩
structure Rel (ops:Array Oper) (a0:Act) (vals:Nat->Value) (L:Nat->Bool) (a:Act):Prop where
 defers:a.defers=a0.defers
 size:a.tmps.size=a0.tmps.size
 put:∀j d,L j=true->(ops[j]?).bind (·.dst)=some d->d<a0.tmps.size->a.tmps[d]? =some (vals j)
 rest:∀t,(∀j,L j=true->(ops[j]?).bind (·.dst)≠some t)->a.tmps[t]? =a0.tmps[t]?
theorem Rel.start(a0:Act)(vals:Nat->Value):Rel ops a0 vals (λ_=>false) a0:=⟨rfl,rfl,λ_ _ h=>(by cases h),λ_ _=>rfl⟩
theorem QF(h:TC ops=true){i j:Nat}{d:Tmp}(hi:(ops[i]?).bind (·.dst)=some d)(hj:(ops[j]?).bind (·.dst)=some d):i=j:=by
 have lt:∀ {k:Nat},(ops[k]?).bind (·.dst)=some d->k<ops.size:=λ{k} hk=>by
  rcases Nat.lt_or_ge k ops.size with h'|h'
  ·exact h'
  ·simp[Array.getElem?_eq_none h']at hk
 have h1:=List.all_eq_true.1 h i (by simpa using lt hi);have h2:=List.all_eq_true.1 h1 j (by simpa using lt hj);simp[hi,hj]at h2;exact h2
theorem Rel.step{a0 a:Act}{vals:Nat->Value}{L:Nat->Bool}(h:Rel ops a0 vals L a)(hd:TC ops=true){i:Nat}{o:Oper}(ho:ops[i]? =some o)(L':Nat->Bool)(hL':∀j,L' j=(L j||j==i)):
  Rel ops a0 vals L' (a.put o.dst (vals i)):=by
 have hdi:(ops[i]?).bind (·.dst)=o.dst:=by rw[ho];rfl
 cases hod:o.dst with
 |none=>
  refine⟨h.defers,h.size,λj d hj hjd hlt=>?_,λt ht=>h.rest t λj hj=>ht j (by rw[hL'];simp[hj])⟩;rw[hL']at hj;simp only[Bool.or_eq_true,beq_iff_eq]at hj;rcases hj with hj|rfl
  ·exact h.put j d hj hjd hlt
  ·rw[hdi,hod]at hjd;cases hjd
 |some d0=>
  refine⟨h.defers,by simp[Act.put,h.size],λj d hj hjd hlt=>?_,λt ht=>?_⟩
  ·rw[hL']at hj
   simp only[Bool.or_eq_true,beq_iff_eq]at hj;by_cases hdd:d0=d
   ·subst hdd
    obtain rfl:=QF hd hjd (hdi.trans hod);have:d0<a.tmps.size:=by rw[h.size];exact hlt
    simp[Act.put,this]
   ·rcases hj with hj|rfl
    ·simp only[Act.put,Array.getElem?_setIfInBounds_ne hdd];exact h.put j d hj hjd hlt
    ·rw[hdi,hod]at hjd;exact absurd (Option.some.inj hjd) hdd
  ·have hne:d0≠t:=λe=>ht i (by rw[hL'];simp) (by rw[hdi,hod,e])
   simp only[Act.put,Array.getElem?_setIfInBounds_ne hne];exact h.rest t λj hj=>ht j (by rw[hL'];simp[hj])
theorem Rel.ext{a0 a b:Act}{vals:Nat->Value}{L:Nat->Bool}(h:Rel ops a0 vals L a)(h':Rel ops a0 vals L b):a=b:=by
 have hs:a.tmps=b.tmps:=by
  apply Array.ext_getElem?;intro t;by_cases ht:∃j,L j=true∧(ops[j]?).bind (·.dst)=some t
  ·obtain⟨j,hj,hd⟩:=ht
   rcases Nat.lt_or_ge t a0.tmps.size with hlt|hlt
   ·rw[h.put j t hj hd hlt,h'.put j t hj hd hlt]
   ·rw[Array.getElem?_eq_none (by rw[h.size];exact hlt),Array.getElem?_eq_none (by rw[h'.size];exact hlt)]
  ·have hn:∀j,L j=true->(ops[j]?).bind (·.dst)≠some t:=λj hj hd=>ht ⟨j,hj,hd⟩
   rw[h.rest t hn,h'.rest t hn]
 cases a;cases b;have h1:=h.defers;have h2:=h'.defers;simp only at hs h1 h2;subst hs h1;rw[h2]
theorem Rel.look{a0 a b:Act}{vals:Nat->Value}{L L':Nat->Bool}(h:Rel ops a0 vals L a)(h':Rel ops a0 vals L' b){t:Tmp}
  (hk:∀j:Nat,(ops[j]?).bind Oper.dst=some t->L j=true∧L' j=true):a.tmps.getD t undef=b.tmps.getD t undef:=by
 have:a.tmps[t]? =b.tmps[t]? :=by
  by_cases ht:∃j:Nat,(ops[j]?).bind Oper.dst=some t
  ·obtain⟨j,hd⟩:=ht
   obtain⟨h1,h2⟩:=hk j hd;rcases Nat.lt_or_ge t a0.tmps.size with hlt|hlt
   ·rw[h.put j t h1 hd hlt,h'.put j t h2 hd hlt]
   ·rw[Array.getElem?_eq_none (by rw[h.size];exact hlt),Array.getElem?_eq_none (by rw[h'.size];exact hlt)]
  ·have hn:∀j:Nat,(ops[j]?).bind Oper.dst≠some t:=λj hd=>ht ⟨j,hd⟩
   rw[h.rest t λj _=>hn j,h'.rest t λj _=>hn j]
 simp only[Array.getD_eq_getD_getElem?,this]
theorem BM{S:List Nat}{Cs:Nat->World->Prop}{n:Nat}(hs:∀i,i<n->S.elem i=false->Cs (i+1)=Cs i):∀(d i:Nat),i+d<=n->(∀s∈S,s<n->¬(i<=s∧s<i+d))->Cs (i+d)=Cs i
 |0,_,_,_=>rfl
 |d+1,i,hl,hn=>by
  have h1:=BM hs d i OM (λs hs' hsn hh=>hn s hs' hsn OM);have h2:=hs (i+d) OM (by
   cases hc:S.elem (i+d)
   ·rfl
   ·exact absurd ⟨by omega,by omega⟩ (hn (i+d) (by simpa using hc) OM))
  rw[show i+(d+1)=i+d+1 from rfl,h2,h1]
theorem GV{S:List Nat}{Cs:Nat->World->Prop}{n:Nat}(hs:∀i,i<n->S.elem i=false->Cs (i+1)=Cs i){i k:Nat}(hi:i<=n)(hk:k<=n)(h:∀s∈S,s<n->(s<i↔s<k)):Cs i=Cs k:=by
 rcases Nat.le_total i k with hik|hik
 ·have:=BM hs (k-i) i OM (λs hs' hsn hh=>by have:=h s hs' hsn;omega)
  rw[<-this];congr 1;omega
 ·have:=BM hs (i-k) k OM (λs hs' hsn hh=>by have:=h s hs' hsn;omega)
  rw[<-this];congr 1;omega
theorem getD_lt{L:Array Bool}{j:Nat}(h:L.getD j false=true):j<L.size:=by
 rcases Nat.lt_or_ge j L.size with h'|h'
 ·exact h'
 ·simp[Array.getElem?_eq_none h']at h
theorem jh{L:Array Bool}{j:Nat}(hj:j<L.size):L.getD j true=L.getD j false:=by simp[hj]
theorem QH{S:List Nat}{E:World->Prop}{Q:Exit->Act->World->Prop}(hB:O0 ops S=true){a0:Act}{A:Nat->Act}{Cs:Nat->World->Prop}{vals:Nat->Value}(hA0:A 0=a0)(hE0:∀w,Cs 0 w->E w)
  (hend:∀w,Cs ops.size w->Q .normal (A ops.size) w)
  (hf:∀i,i<ops.size->∀o,ops[i]? =some o->A (i+1)=(A i).put o.dst (vals i)∧
    if Region.wanted o (yielded ops (A i).tmps)then
     ((S.elem i=false∧Cs (i+1)=Cs i∧∀D:World->Prop,∀w,D w->E w->o.wp P (A i) w (wN ((A i).put o.dst (vals i)) D) (λ_ _ _=>False))∨
      (rd ops S i=true∧(Cs (i+1)=Cs i∨(i∈S∧∀w,Cs (i+1) w->E w))∧∀w,Cs i w->o.wp P (A i) w (wN ((A i).put o.dst (vals i)) (Cs (i+1))) (λ_ _ _=>False)))
    else Cs (i+1)=Cs i∧vals i=undef):
  ∀(fuel:Nat) (L:Array Bool) (a:Act) (w:World) (k:Nat),((List.range ops.size).filter λj=> !L.getD j false).length=fuel->Closed ops L->Rel ops a0 vals (λj=>L.getD j false) a->
   k<=ops.size->(∀s∈S,s<ops.size->(L.getD s false=true↔s<k))->Cs k w->wpAny P .any ops Q fuel L a w:=by
 simp only[O0,Bool.and_eq_true]at hB;obtain⟨⟨⟨hsel,hd⟩,afp⟩,hlk⟩:=hB;have hops:∀ {i:Nat} {o:Oper},ops[i]? =some o->i<ops.size∧(∀e∈o.after,Region.binds .any e=true->e.on<i)∧TB ops i o=true:=by
  intro i o ho;have hi:i<ops.size:=(Array.getElem?_eq_some_iff.1 ho).1;have h1:=List.all_eq_true.1 hlk i (by simpa using hi);simp only[ho,Bool.and_eq_true]at h1;refine⟨hi,λe he hb=>?_,h1.2⟩;have:=Array.all_eq_true_iff_forall_mem.1 h1.1 e he;simpa[hb]using this
 have hsame:∀i,i<ops.size->S.elem i=false->Cs (i+1)=Cs i:=by
  intro i hi hS;obtain⟨_,h2⟩:=hf i hi ops[i] (by simp[hi])
  split at h2
  ·rcases h2 with h2|h2
   ·exact h2.2.1
   ·rcases h2.2.1 with h3|h3
    ·exact h3
    ·have:S.elem i=true:=by simpa using h3.1
     rw[this]at hS;cases hS
  ·exact h2.1
 have hE:∀k,k<=ops.size->∀w,Cs k w->E w:=by
  intro k
  induction k with
  |zero=>intro _;exact hE0
  |succ k ih=>
   intro hk w hw;obtain⟨_,h2⟩:=hf k OM ops[k] (by simp[show k<ops.size by omega])
   split at h2
   ·rcases h2 with h2|h2
    ·rw[h2.2.1]at hw;exact ih OM w hw
    ·rcases h2.2.1 with h3|h3
     ·rw[h3]at hw;exact ih OM w hw
     ·exact h3.2 w hw
   ·rw[h2.1]at hw;exact ih OM w hw
 have hlex:∀k,k<=ops.size->Rel ops a0 vals (λj=>decide (j<k)) (A k):=by
  intro k
  induction k with
  |zero=>intro _;rw[hA0];simpa using Rel.start (ops:=ops) a0 vals
  |succ k ih=>
   intro hk;have ho:ops[k]? =some ops[k]:=by simp[show k<ops.size by omega]
   rw[(hf k OM _ ho).1];exact(ih OM).step hd ho _ (λj=>by rw[Bool.eq_iff_iff];simp;omega)
 have done:∀(L:Array Bool) (a:Act) (w:World) (k:Nat),Closed ops L->Rel ops a0 vals (λj=>L.getD j false) a->k<=ops.size->(∀s∈S,s<ops.size->(L.getD s false=true↔s<k))->Cs k w->
   Region.ready .any ops L=[]->Q .normal a w:=by
  intro L a w k hc hr hk hS hC hre;have all:∀j,j<ops.size->L.getD j false=true:=by
   intro j
   induction j using Nat.strongRecOn with
   |_ j ih=>
    intro hj;cases hL:L.getD j false
    ·have ho:ops[j]? =some ops[j]:=by simp[hj]
     have:j∈Region.ready .any ops L:=mem_ready.2 ⟨by rw[jh (by rw[hc.1];exact hj)];exact hL,ops[j],ho,λe he hb=>by
      have:=(hops ho).2.1 e he hb;exact ih e.on this OM⟩
     rw[hre]at this;cases this
    ·rfl
  have e:(λj=>L.getD j false)=(λj=>decide (j<ops.size)):=by
   funext j;by_cases hj:j<ops.size
   ·rw[all j hj];simp[hj]
   ·cases hL:L.getD j false
    ·simp[hj]
    ·exact absurd (by rw[<-hc.1];exact getD_lt hL) hj
  rw[e]at hr;have hae:=hr.ext (hlex _ (Nat.le_refl _));have hCe:Cs k=Cs ops.size:=GV hsame hk (Nat.le_refl _) (λs hs hsn=>by have:=hS s hs hsn;rw[all s hsn]at this;simp at this;omega);rw[hae];exact hend w (hCe▸hC)
 intro fuel
 induction fuel with
 |zero=>
  intro L a w k hcnt hc hr hk hS hC;have hre:Region.ready .any ops L=[]:=by
   rw[List.eq_nil_iff_forall_not_mem];intro j hj;obtain⟨h1,o,ho,_⟩:=mem_ready.1 hj;have hj':=(hops ho).1;have:j∈(List.range ops.size).filter λj=> !L.getD j false:=by
    rw[List.mem_filter];refine⟨by simpa using hj',?_⟩;rw[jh (by rw[hc.1];exact hj')]at h1;simp[h1]
   rw[List.eq_nil_of_length_eq_zero hcnt]at this;cases this
  exact⟨hre,done L a w k hc hr hk hS hC hre⟩
 |succ fuel ih=>
  intro L a w k hcnt hc hr hk hS hC;refine⟨λhre=>done L a w k hc hr hk hS hC hre,λi hi=>?_⟩;obtain⟨hun,o,ho,hall⟩:=mem_ready.1 hi;obtain⟨hilt,hback,afq⟩:=hops ho;have hLs:i<L.size:=by rw[hc.1];exact hilt
  have YA:L.getD i false=false:=by rw[<-jh hLs];exact hun
  have hget:∀j,(L.setIfInBounds i true).getD j false=(L.getD j false||j==i):=by
   intro j;by_cases hji:i=j
   ·subst hji;simp[hLs]
   ·rw[getD_set_ne false hji]
    have:(j==i)=false:=by simpa using λh=>hji h.symm
    rw[this];simp
  have hc':Closed ops (L.setIfInBounds i true):=by
   refine⟨by simpa using hc.1,λj oj hoj hj e he hb=>?_⟩;rw[hget]at hj|-;simp only[Bool.or_eq_true,beq_iff_eq]at hj;rcases hj with hj|rfl
   ·rw[hc.2 j oj hoj hj e he hb];rfl
   ·obtain rfl:=Option.some.inj (ho.symm.trans hoj)
    rw[hall e he hb];rfl
  have I8:((List.range ops.size).filter λj=> !(L.setIfInBounds i true).getD j false).length=fuel:=by
   have e:((List.range ops.size).filter λj=> !(L.setIfInBounds i true).getD j false)=((List.range ops.size).filter λj=> !L.getD j false).erase i:=by
    rw[List.Nodup.erase_eq_filter (List.nodup_range.filter _),List.filter_filter];apply List.filter_congr;intro j _;rw[hget];by_cases hji:j=i
    ·simp[hji]
    ·have h1:(j==i)=false:=by simpa using hji
     have h2:(j != i)=true:=by simpa using hji
     rw[h1,h2];simp
   rw[e,List.length_erase_of_mem (by rw[List.mem_filter];exact⟨by simpa using hilt,by simp[YA]⟩),hcnt];rfl
  have YB:∀j,zC ops ops.size i j=true->L.getD j false=true:=λj h=>nP hc _ _ _ h ⟨o,ho,hall⟩
  have hrel:Rel ops a0 vals (λj=>(L.setIfInBounds i true).getD j false) (a.put o.dst (vals i)):=hr.step hd ho _ (λj=>hget j);obtain⟨hstep,hfi⟩:=hf i hilt o ho;have abS:∀t∈o.looksAt ops,a.tmps.getD t undef=(A i).tmps.getD t undef:=by
   intro t ht;refine hr.look (hlex i OM) (t:=t) λj hj=>?_
   have h1:=List.all_eq_true.1 afq t ht;have hjlt:j<ops.size:=by
    rcases Nat.lt_or_ge j ops.size with h'|h'
    ·exact h'
    ·simp[Array.getElem?_eq_none h']at hj
   have h2:=List.all_eq_true.1 h1 j (by simpa using hjlt);simp only[hj,beq_self_eq_true,Bool.not_true,Bool.false_or,Bool.and_eq_true,decide_eq_true_eq]at h2;exact⟨YB j h2.2,by simpa using h2.1⟩
  have hex:execOp a.eval o=execOp (A i).eval o:=by
   refine execOp_congr o (λcs b=>Region.noSelect_spec hsel i o cs b ho) λx hx=>?_
   cases x with
   |tmp t=>exact abS t (by simp only[Oper.looksAt,List.mem_append,List.mem_filterMap];exact .inl ⟨.tmp t,by simpa using hx,rfl⟩)
   |_=>rfl
  have hwant:Region.wanted o (yielded ops a.tmps)=Region.wanted o (yielded ops (A i).tmps):=by
   unfold Region.wanted;cases hg:o.guard with
   |none=>rfl
   |some g=>
    obtain⟨j,wv⟩:=g;simp only;unfold yielded;cases hdj:(ops[j]?).bind (·.dst)with
    |none=>rfl
    |some t=>
     have hs:=abS t (by simp only[Oper.looksAt,List.mem_append];right;simp[hg,hdj]);have hsz:a.tmps.size=(A i).tmps.size:=by rw[hr.size,(hlex i OM).size]
     have:a.tmps[t]? =(A i).tmps[t]? :=by
      rcases Nat.lt_or_ge t a.tmps.size with hlt|hlt
      ·have hlt':t< (A i).tmps.size:=by rw[<-hsz];exact hlt
       simp only[Array.getD_eq_getD_getElem?,hlt,hlt',Array.getElem?_eq_getElem,Option.getD_some]at hs;simp only[hlt,hlt',Array.getElem?_eq_getElem,hs]
      ·rw[Array.getElem?_eq_none hlt,Array.getElem?_eq_none (by rw[<-hsz];exact hlt)]
     simp only[Option.bind_some,this]
  have hsz:a.tmps.size=(A i).tmps.size:=by rw[hr.size,(hlex i OM).size]
  have place:rd ops S i=true->(∀s∈S,s<ops.size->(L.getD s false=true↔s<i)):=by
   intro hrd s hs hsn;have h1:=List.all_eq_true.1 hrd s hs;simp only[Bool.or_eq_true,beq_iff_eq]at h1;rcases h1 with rfl|h1
   ·rw[YA];simp
   ·unfold ordered at h1
    split at h1
    ·rename_i hlt
     rw[YB s h1];simpa using hlt
    ·rename_i hge
     constructor
     ·intro hsl
      rw[EL hc h1 hsl]at YA;cases YA
     ·intro h;omega
  have hC':rd ops S i=true->Cs i w:=λhrd=>by
   have:=GV hsame (show i<=ops.size by omega) hk (λs hs hsn=>((place hrd s hs hsn).symm.trans (hS s hs hsn)));rw[this];exact hC
  have TD:S.elem i=false->∀s∈S,s<ops.size->((L.setIfInBounds i true).getD s false=true↔s<k):=by
   intro YC s hs hsn;rw[hget];have:(s==i)=false:=by
    cases hsi:(s==i)
    ·rfl
    ·have:s=i:=by simpa using hsi
     subst this;have:S.elem s=true:=by simpa using hs
     rw[this]at YC;cases YC
   rw[this,Bool.or_false];exact hS s hs hsn
  have abT:i∈S->∀s∈S,s<ops.size->((L.setIfInBounds i true).getD s false=true↔s<i+1):=by
   intro QI s hs hsn;have hrd:=List.all_eq_true.1 afp i QI;rw[hget];have:=place hrd s hs hsn;by_cases hsi:s=i
   ·subst hsi;simp
   ·have e:(s==i)=false:=by simpa using hsi
    rw[e,Bool.or_false,this];omega
  unfold wpOp;simp only[ho];rw[hwant];by_cases hw:Region.wanted o (yielded ops (A i).tmps)=true
  ·rw[if_pos hw]at hfi|-
   left
   rcases hfi with⟨YC,hCe,hany⟩ | ⟨hrd,hcs,hrun⟩
   ·refine Am hex hsz (hany (Cs k) w hC (hE k hk w hC)) λw' hw'=>?_
    exact ih _ _ w' k I8 hc' hrel hk (TD YC) hw'
   ·refine Am hex hsz (hrun w (hC' hrd)) λw' hw'=>?_
    by_cases QI:i∈S
    ·exact ih _ _ w' (i+1) I8 hc' hrel OM (abT QI) hw'
    ·have YC:S.elem i=false:=by
      cases h:S.elem i
      ·rfl
      ·exact absurd (by simpa using h) QI
     have hce:=GV hsame (show i<=ops.size by omega) hk (λs hs hsn=>((place hrd s hs hsn).symm.trans (hS s hs hsn)));exact ih _ _ w' k I8 hc' hrel hk (TD YC) (by rw[<-hce,<-hsame i hilt YC];exact hw')
  ·rw[if_neg hw]at hfi|-
   rw[hfi.2]at hrel;by_cases QI:i∈S
   ·have hrd:=List.all_eq_true.1 afp i QI
    exact ih _ _ w (i+1) I8 hc' hrel OM (abT QI) (by rw[hfi.1];exact hC' hrd)
   ·have YC:S.elem i=false:=by
     cases h:S.elem i
     ·rfl
     ·exact absurd (by simpa using h) QI
    exact ih _ _ w k I8 hc' hrel hk (TD YC) hC
theorem aH{id:Nat}{l:List Oper}{Q:Exit->Act->World->Prop}{a:Act}{w:World}{C:World->Prop}(S:List Nat)(E:World->Prop)(hC:C w.drew)(hE:∀w,C w->E w)(hm:P.follows .mixedOrders=true)(hB:O0 l.toArray S=true)
  (h:kF P l.toArray S E (λC a=>∀w,C w->Q .normal a w) l 0 C a):(Code.region id l.toArray true).wp P Q a w:=by
 refine wp_region_any hm ?_;obtain⟨A,Cs,vals,hA,hCs,hF,hs⟩:=uT (ops:=l.toArray) l 0 C a (λj=>by simp) h;have hn:0+l.length=l.toArray.size:=by simp
 rw[hn]at hF;refine QH hB hA (hCs.symm▸hE) (λw hw=>hF w hw) (λi hi o ho=>hs i OM (by simpa using hi) o ho) _ _ a _ 0 ?_ ⟨by simp,λj oj _ hj=>?_⟩ ?_ OM (λs _ _=>?_) (by rw[hCs];exact hC)
 ·have:∀j,(Array.replicate l.toArray.size false).getD j false=false:=getD_replicate_false _
  simp only[this];rw[List.filter_eq_self.2 SI];simp
 ·rw[getD_replicate_false]at hj;cases hj
 ·have:(λj=>(Array.replicate l.toArray.size false).getD j false)=λ_=>false:=funext (getD_replicate_false _)
  rw[this];exact Rel.start a vals
 ·rw[getD_replicate_false];simp
section
variable {S:List Nat}{E:World->Prop}{F:(World->Prop)->Act->Prop}{rest:List Oper}{k:Nat}{C:World->Prop}{a A':Act}{dst:Option Tmp}{op:Op}{ty:TypeId}{pos:String}{af:Array Edge}{g:Option (Nat×Bool)}
theorem bn(h:F C a):kF P ops S E F [] k C a:=h
theorem qd(hw:Region.wanted ⟨dst,op,ty,pos,af,g⟩ (yielded ops a.tmps)=false)(h:kF P ops S E F rest (k+1) C (a.put dst undef)):kF P ops S E F (⟨dst,op,ty,pos,af,g⟩::rest) k C a:=by
 unfold kF;rw[if_neg (by rw[hw];exact Bool.false_ne_true)];exact h
theorem xy{w:World}{D:World->Prop}(h:wpList P ops (vS A' D) [⟨dst,op,ty,pos,af,none⟩] a w):Oper.wp P ⟨dst,op,ty,pos,af,g⟩ a w (wN A' D) (λ_ _ _=>False):=by
 have h1:=QD (by simp[Region.wanted]) h;unfold Oper.wp at h1|-;have e:execOp a.eval ⟨dst,op,ty,pos,af,g⟩=execOp a.eval ⟨dst,op,ty,pos,af,none⟩:=rfl;rw[e];generalize(execOp a.eval ⟨dst,op,ty,pos,af,none⟩).run P w=r at h1|-;cases r with
 |ok n w'=>cases n<;>exact h1
 |halt x w'=>cases x<;>exact h1
theorem aZ(hw:Region.wanted ⟨dst,op,ty,pos,af,g⟩ (yielded ops a.tmps)=true)(hrd:rd ops S k=true)(h:∀w,C w->wpList P ops (vS A' C) [⟨dst,op,ty,pos,af,none⟩] a w)(hA:∃v,A'=a.put dst v)
  (hr:kF P ops S E F rest (k+1) C A'):kF P ops S E F (⟨dst,op,ty,pos,af,g⟩::rest) k C a:=by
 obtain⟨v,rfl⟩:=hA;unfold kF;rw[if_pos hw];exact⟨v,C,hr,.inr ⟨hrd,.inl rfl,λw hw=>xy (h w hw)⟩⟩
theorem cZ(hw:Region.wanted ⟨dst,op,ty,pos,af,g⟩ (yielded ops a.tmps)=true)(hS:S.elem k=false)(h:∀(D:World->Prop) w,D w->E w->wpList P ops (vS A' D) [⟨dst,op,ty,pos,af,none⟩] a w)(hA:∃v,A'=a.put dst v)
  (hr:kF P ops S E F rest (k+1) C A'):kF P ops S E F (⟨dst,op,ty,pos,af,g⟩::rest) k C a:=by
 obtain⟨v,rfl⟩:=hA;unfold kF;rw[if_pos hw];exact⟨v,C,hr,.inl ⟨hS,rfl,λD w hw hE=>xy (h D w hw hE)⟩⟩
theorem dw{C':World->Prop}(hw:Region.wanted ⟨dst,op,ty,pos,af,g⟩ (yielded ops a.tmps)=true)(hkS:S.elem k=true)(hrd:rd ops S k=true)(h:∀w,C w->wpList P ops (vS A' C') [⟨dst,op,ty,pos,af,none⟩] a w)(hA:∃v,A'=a.put dst v)
  (hCE:∀w,C' w->E w) (hr:kF P ops S E F rest (k+1) C' A'):kF P ops S E F (⟨dst,op,ty,pos,af,g⟩::rest) k C a:=by
 obtain⟨v,rfl⟩:=hA;unfold kF;rw[if_pos hw];exact⟨v,C',hr,.inr ⟨hrd,.inr ⟨by simpa using hkS,hCE⟩,λw hw=>xy (h w hw)⟩⟩
end
end
theorem gX{T:List Nat}{w0 w:World}{m:List aG}(_:Inv T w0 w m):∃mE,mE=m:=⟨m,rfl⟩
def iv(x:Int):Value:=.int .i64 x
def eqv(cs ds:List Value):Bool:=decide (cs.map intOf=ds.map intOf)
theorem I9(cs:List Value):eqv cs cs=true:=by simp[eqv]
def I_(v:Value):Prop:=∃x,v=iv x
def Flat(P:Program)(t n D:Nat):Prop:=(P.underlying t=some (.int .i64)∧jg P t∧n=1∧1<=D)∨
 (fw P t n∧∀d,D<=d->∀(cs ds:List Value) (w:World),(∀v∈cs,I_ v)->(∀v∈ds,I_ v)->cs.length=n->ds.length=n->(Op.equalIn d t (.agg cs.toArray) (.agg ds.toArray)).run P w=.ok (eqv cs ds) w)
theorem Flat.int{P:Program}{t D:Nat}(h:P.underlying t=some (.int .i64))(ha:jg P t)(hD:1<=D):Flat P t 1 D:=.inl ⟨h,ha,rfl,hD⟩
theorem Flat.agg{P:Program}{t n D:Nat}(hT:fw P t n)(h:∀d,D<=d->∀(cs ds:List Value) (w:World),(∀v∈cs,I_ v)->(∀v∈ds,I_ v)->cs.length=n->ds.length=n->(Op.equalIn d t (.agg cs.toArray) (.agg ds.toArray)).run P w=.ok (eqv cs ds) w):Flat P t n D:=.inr ⟨hT,h⟩
section
variable {P:Program}
theorem Flat.weak{t n D D':Nat}(h:Flat P t n D)(hd:D<=D'):Flat P t n D':=by
 rcases h with⟨h1,h2,h3,h4⟩ | ⟨hT,h⟩
 ·exact .inl ⟨h1,h2,h3,Nat.le_trans h4 hd⟩
 ·exact .inr ⟨hT,λd hd'=>h d (Nat.le_trans hd hd')⟩
theorem Flat.part{t n D:Nat}(h:Flat P t n D)(d:Nat)(hd:D<=d)(cs ds:List Value)(w:World)(hc:∀v∈cs,I_ v)(hds:∀v∈ds,I_ v)(off:Nat)(h1:off+n<=cs.length)(h2:off+n<=ds.length):
  ∃x y,(Go.part t cs.toArray off).run P w=.ok x w∧(Go.part t ds.toArray off).run P w=.ok y w∧(Op.equalIn d t x y).run P w=.ok (eqv ((cs.drop off).take n) ((ds.drop off).take n)) w:=by
 rcases h with⟨h,ha,rfl,hD1⟩ | ⟨hT,h⟩
 ·have e1:off<cs.length:=by omega
  have e2:off<ds.length:=by omega
  obtain⟨x,hx⟩:=hc cs[off] (List.getElem_mem e1);obtain⟨y,hy⟩:=hds ds[off] (List.getElem_mem e2);refine⟨iv x,iv y,?_,?_,?_⟩
  ·rw[Go.part,Sem.run_bind,ha.isAgg,Result.andThen_ok];simp[e1,hx]
  ·rw[Go.part,Sem.run_bind,ha.isAgg,Result.andThen_ok];simp[e2,hy]
  ·obtain⟨d,rfl⟩:∃e,d=e+1:=⟨d-1,by omega⟩
   have:=run_equalIn_int (P:=P) w d t .i64 .i64 x y h;rw[iv,iv,this];congr 1;rw[List.drop_eq_getElem_cons e1,List.drop_eq_getElem_cons e2,hx,hy];simp only[List.take_succ_cons,List.take_zero,eqv,iv,List.map_cons,List.map_nil,intOf,List.cons.injEq,and_true];by_cases hxy:x=y<;>simp[hxy]
 ·refine⟨_,_,?_,?_,h d hd ((cs.drop off).take n) ((ds.drop off).take n) w (λv hv=>hc v (List.mem_of_mem_drop (List.mem_of_mem_take hv))) (λv hv=>hds v (List.mem_of_mem_drop (List.mem_of_mem_take hv))) (by simp;omega) (by simp;omega)⟩
  ·rw[Go.part,Sem.run_bind,hT.isAgg,Result.andThen_ok]
   simp only[if_true];rw[Sem.run_bind,dH hT.size,Result.andThen_ok];simp[List.extract_eq_take_drop]
  ·rw[Go.part,Sem.run_bind,hT.isAgg,Result.andThen_ok]
   simp only[if_true];rw[Sem.run_bind,dH hT.size,Result.andThen_ok];simp[List.extract_eq_take_drop]
theorem BN{a b c d:List Value}(h:a.length=c.length):eqv (a++b) (c++d)=(eqv a c&&eqv b d):=by
 unfold eqv;rw[Bool.eq_iff_iff];simp only[List.map_append,decide_eq_true_eq,Bool.and_eq_true]
 constructor
 ·intro he
  have:=List.append_inj he (by simp[h]);exact this
 ·rintro⟨h1,h2⟩;rw[h1,h2]
def Ao(P:Program)(D:Nat):List Field->Nat->Nat->Prop
 | [],o,n=>o=n
 |f::fs,o,n=>f.name≠ "_" ∧f.offset=o∧∃k,Flat P f.type k D∧Ao P D fs (o+k) n
theorem Ao.le{D:Nat}:∀ {fs:List Field} {o n:Nat},Ao P D fs o n->o<=n
 | [],_,_,h=>by cases h;exact Nat.le_refl _
 |_::_,_,_,⟨_,_,k,_,h⟩=>by have:=Ao.le h;omega
theorem yz{D:Nat}:∀(fs:List Field) (o n:Nat),Ao P D fs o n->∀(d:Nat),D<=d->∀(cs ds:List Value) (w:World),(∀v∈cs,I_ v)->(∀v∈ds,I_ v)->cs.length=n->ds.length=n->
  (Op.eqFields d cs.toArray ds.toArray fs).run P w=.ok (eqv (cs.drop o) (ds.drop o)) w
 | [],o,n,h,d,_,cs,ds,w,_,_,h1,h2=>by
  have h:o=n:=h;simp[Op.eqFields,List.drop_eq_nil_of_le,h1,h2,h,I9]
 |f::fs,o,n,⟨hn,ho,k,hf,hr⟩,d,hd,cs,ds,w,hc,hds,h1,h2=>by
  have hle:=Ao.le hr;subst ho;obtain⟨x,y,hx,hy,he⟩:=hf.part d hd cs ds w hc hds f.offset OM OM;have ih':=yz fs (f.offset+k) n hr d hd cs ds w hc hds h1 h2;have split:∀l:List Value,l.length=n->l.drop f.offset=(l.drop f.offset).take k++l.drop (f.offset+k):=λl _=>by
   rw[<-List.drop_drop,List.take_append_drop]
  rw[split cs h1,split ds h2,BN (by simp;omega)];simp only[Op.eqFields,hn,ne_eq,not_false_eq_true,if_true,Sem.run_bind,hx,hy,he,Result.andThen_ok];cases eqv ((cs.drop f.offset).take k) ((ds.drop f.offset).take k)
  ·simp
  ·simpa using ih'
theorem Ja{t n D:Nat}(hT:fw P t n)(ht:P.underlying t=some (.struct (P.fieldsOf t)))(hp:P.stoodInHeld t=false)(h:Ao P D (P.fieldsOf t).toList 0 n):Flat P t n (D+1):=by
 refine .agg hT λd hd cs ds w hc hds h1 h2=>?_
 obtain⟨d,rfl⟩:∃e,d=e+1:=⟨d-1,by omega⟩;rw[run_equalIn_struct w d t _ _ ht hp,yz _ 0 n h d OM cs ds w hc hds h1 h2];simp
def uU(P:Program)(D:Nat):List (Bool×Nat×TypeId)->Nat->Nat->Prop
 | [],o,n=>o=n
 |x::l,o,n=>x.1=false∧x.2.1=o∧∃k,Flat P x.2.2 k D∧uU P D l (o+k) n
theorem uU.nil{D n:Nat}:uU P D [] n n:=rfl
theorem uU.cons{D o k n t D':Nat}{l:List (Bool×Nat×TypeId)}(h:Flat P t k D')(hD:D'<=D)(hr:uU P D l (o+k) n):uU P D ((false,o,t)::l) o n:=⟨rfl,rfl,k,h.weak hD,hr⟩
def zI(f:Field):Bool×Nat×TypeId:=(f.name== "_",f.offset,f.type)
theorem Jb{D:Nat}:∀(fs:List Field) (o n:Nat),uU P D (fs.map zI) o n->Ao P D fs o n
 | [],_,_,h=>h
 |f::fs,o,n,h=>by
  obtain⟨h1,h2,k,h3,h4⟩:=h;exact⟨by simpa[zI]using h1,h2,k,h3,Jb fs _ _ h4⟩
theorem kT{t n D:Nat}{l:List (Bool×Nat×TypeId)}(hT:fw P t n)(ht:P.underlying t=some (.struct (P.fieldsOf t)))(hp:P.stoodInHeld t=false)(hl:(P.fieldsOf t).toList.map zI=l)(h:uU P D l 0 n):Flat P t n (D+1):=
 Ja hT ht hp (Jb _ 0 n (hl▸h))
theorem Ap{e k D:Nat}(hf:Flat P e k D)(d:Nat)(hd:D<=d)(cs ds:List Value)(hc:∀v∈cs,I_ v)(hds:∀v∈ds,I_ v):∀(m i:Nat) (w:World),cs.length=(i+m)*k->ds.length=(i+m)*k->
  (forIn (List.range' i m) ((none,()):Option Bool×Unit) λj _=>do
    if(!(<-Op.equalIn d e (<-Go.part e cs.toArray (j*k)) (<-Go.part e ds.toArray (j*k))))=true then pure (ForInStep.done (some false,()))else pure (ForInStep.yield (none,())):Sem (Option Bool×Unit)).run P w=
   .ok (if eqv (cs.drop (i*k)) (ds.drop (i*k))then(none,())else(some false,())) w
 |0,i,w,h1,h2=>by
  simp only[Nat.add_zero]at h1 h2;simp[List.drop_eq_nil_of_le,h1,h2,I9]
 |m+1,i,w,h1,h2=>by
  have e1:(i+(m+1))*k=i*k+k+m*k:=by rw[Nat.add_mul,Nat.succ_mul];omega
  obtain⟨x,y,hx,hy,he⟩:=hf.part d hd cs ds w hc hds (i*k) OM OM;have ih:=Ap hf d hd cs ds hc hds m (i+1) w (by rw[h1,show i+(m+1)=i+1+m from by omega]) (by rw[h2,show i+(m+1)=i+1+m from by omega]);have split:∀l:List Value,l.drop (i*k)=(l.drop (i*k)).take k++l.drop ((i+1)*k):=λl=>by
   rw[Nat.succ_mul,<-List.drop_drop,List.take_append_drop]
  rw[split cs,split ds,BN (by simp;omega)];simp only[List.range'_succ,List.forIn_cons,Sem.run_bind,hx,hy,he,Result.andThen_ok];cases eqv ((cs.drop (i*k)).take k) ((ds.drop (i*k)).take k)
  ·simp
  ·simpa using ih
theorem tQ{t e k m n D:Nat}(hT:fw P t n)(ht:P.underlying t=some (.array m e))(hk:(P.info? e).map (·.size)=some k)(hf:Flat P e k D)(hn:n=m*k):Flat P t n (D+1):=by
 refine .agg hT λd hd cs ds w hc hds h1 h2=>?_
 obtain⟨d,rfl⟩:∃e,d=e+1:=⟨d-1,by omega⟩;have hl:=Ap hf d OM cs ds hc hds m 0 w (by rw[Nat.zero_add,h1,hn]) (by rw[Nat.zero_add,h2,hn]);simp only[Op.equalIn,Sem.run_bind,run_underlying ht,Result.andThen_ok,dH hk];rw[Std.Legacy.Range.forIn_eq_forIn_range'];simp only[Std.Legacy.Range.size,Nat.sub_zero,Nat.add_sub_cancel,Nat.div_one];rw[hl];simp only[Nat.zero_mul,List.drop_zero,Result.andThen_ok];cases eqv cs ds<;>simp
end
section
variable {P:Program}{ops:Array Oper}{Q:Exit->Act->World->Prop}{a:Act}{rest:List Oper}{T:List Nat}{w0 w:World}{m:List aG}{dst:Option Tmp}{ty:TypeId}{pos:String}{af:Array Edge}
structure nL (P:Program) (t n:Nat):Prop where
 flat:Flat P t n 20
 guard:P.eqGuardType P.depth t=false
theorem Flat.up{t n D D':Nat}(h:Flat P t n D)(hd:D<=D'):∀d,D'<=d->∀(cs ds:List Value) (w:World),fw P t n->(∀v∈cs,I_ v)->(∀v∈ds,I_ v)->cs.length=n->ds.length=n->(Op.equalIn d t (.agg cs.toArray) (.agg ds.toArray)).run P w=.ok (eqv cs ds) w:=by
 intro d hd' cs ds w hT hc hds h1 h2;rcases h with⟨h,_⟩ | ⟨_,h⟩
 ·have:=hT.1;rw[h]at this;cases this
 ·exact h d OM cs ds w hc hds h1 h2
theorem Md{x y:Operand}{t t' n:Nat}{cs ds:List Value}(hx:a.eval x=.agg cs.toArray)(hy:a.eval y=.agg ds.toArray)(hT:fw P t n)(hF:nL P t n)(hc:∀v∈cs,I_ v)(hd:∀v∈ds,I_ v)(h1:cs.length=n)(h2:ds.length=n)
  (k:wpList P ops Q rest (a.put dst (.bool (eqv cs ds))) w):wpList P ops Q (⟨dst,.binOp .eql t x y t',ty,pos,af,none⟩::rest) a w:=by
 refine au (v:=.bool (eqv cs ds)) ?_ k;unfold fP execOp;simp only[hx,hy,Sem.run_bind,run_eqGuard_agg w .eql t x y cs.toArray ds.toArray hF.guard,Result.andThen_ok,run_eql_struct,hF.flat.up (Nat.le_refl _) 10000 DC cs ds w hT hc hd h1 h2];rfl
theorem Me{x y:Operand}{t t' n:Nat}{cs ds:List Value}(hx:a.eval x=.agg cs.toArray)(hy:a.eval y=.agg ds.toArray)(hT:fw P t n)(hF:nL P t n)(hc:∀v∈cs,I_ v)(hd:∀v∈ds,I_ v)(h1:cs.length=n)(h2:ds.length=n)
  (k:wpList P ops Q rest (a.put dst (.bool (!eqv cs ds))) w):wpList P ops Q (⟨dst,.binOp .neq t x y t',ty,pos,af,none⟩::rest) a w:=by
 refine au (v:=.bool (!eqv cs ds)) ?_ k;unfold fP execOp;simp only[hx,hy,Sem.run_bind,run_eqGuard_agg w .neq t x y cs.toArray ds.toArray hF.guard,Result.andThen_ok,run_neq_struct,hF.flat.up (Nat.le_refl _) 10000 DC cs ds w hT hc hd h1 h2];rfl
end
def ia(zs:List Int):Value:=.agg (zs.map (Value.int .i64)).toArray
def ib(b:Nat)(e:TypeId)(zs:List Int):aG:=blk b e (zs.map (Value.int .i64))
def dF(zs:List Int)(off:Nat)(vs:List Int):List Int:=zs.take off++vs++zs.drop (off+vs.length)
def gi(zs:List Int)(i:Nat):Int:=zs.getD i 0
def sub(zs:List Int)(off n:Nat):List Int:=(zs.drop off).take n
theorem ay(zs:List Int)(off n:Nat):(sub zs off n).length=min n (zs.length-off):=by simp[sub]
theorem nQ(zs:List Int)(off n i:Nat)(h:i<n):gi (sub zs off n) i=gi zs (off+i):=by
 simp[gi,sub,List.getElem?_take,h]
def aj(n:Nat):List Int:=List.replicate n 0
theorem aa(n:Nat):(aj n).length=n:=by simp[aj]
theorem aY(zs vs:List Int)(off:Nat):(dF zs off vs).length=min off zs.length+vs.length+(zs.length- (off+vs.length)):=by simp[dF];omega
theorem Jc(zs:List Int):(ia zs).cells=(zs.map (Value.int .i64)).toArray:=rfl
theorem uV(zs:List Int)(off:Nat)(vs:List Int):splice (zs.map (Value.int .i64)) off (vs.map (Value.int .i64))=(dF zs off vs).map (Value.int .i64):=by
 simp[splice,dF,List.map_take,List.map_drop]
theorem YD(zs:List Int)(off:Nat)(v:Int)(h:off<zs.length):dF zs off [v]=zs.set off v:=by
 rw[List.set_eq_take_append_cons_drop,if_pos h];simp[dF]
theorem iZ(zs vs:List Int)(h:vs.length=zs.length):dF zs 0 vs=vs:=by simp[dF,h]
theorem Jd(vs:List Int):∀u∈vs.map (Value.int .i64),u.oneCell'=true:=by
 intro u hu;obtain⟨z,_,rfl⟩:=List.mem_map.1 hu;rfl
section
variable {P:Program}{ops:Array Oper}{Q:Exit->Act->World->Prop}{a:Act}{rest:List Oper}{T:List Nat}{w0 w:World}{m m':List aG}{dst:Option Tmp}{ty:TypeId}{pos:String}{af:Array Edge}
theorem uW{x:Operand}{t n b off:Nat}{e:TypeId}{zs:List Int}(hI:Inv T w0 w m)(hx:a.eval x=.pointer (some ⟨b,off,none⟩))(hm:ib b e zs∈m)(hT:fw P t n)(hl:off+n<=zs.length)
  (k:wpList P ops Q rest (a.put dst (ia (sub zs off n))) w):wpList P ops Q (⟨dst,.load t x,ty,pos,af,none⟩::rest) a w:=by
 refine bL hI hx hm hT (by simpa using hl) ?_;rw[<-List.map_drop,<-List.map_take];exact k
theorem BO{x:Operand}{t n b:Nat}{e:TypeId}{zs:List Int}(hI:Inv T w0 w m)(hx:a.eval x=.pointer (some ⟨b,0,none⟩))(hm:ib b e zs∈m)(hT:fw P t n)(hl:zs.length=n)
  (k:wpList P ops Q rest (a.put dst (ia zs)) w):wpList P ops Q (⟨dst,.load t x,ty,pos,af,none⟩::rest) a w:=by
 refine uW hI hx hm hT OM ?_;subst hl;rw[show sub zs 0 zs.length=zs from by simp[sub]];exact k
theorem BP{x:Operand}{t b off:Nat}{e:TypeId}{zs:List Int}(hI:Inv T w0 w m)(hx:a.eval x=.pointer (some ⟨b,off,none⟩))(hm:ib b e zs∈m)(hT:jg P t)(hl:off<zs.length)
  (k:wpList P ops Q rest (a.put dst (.int .i64 (gi zs off))) w):wpList P ops Q (⟨dst,.load t x,ty,pos,af,none⟩::rest) a w:=by
 refine aS hI hx hm hT (v:=.int .i64 (gi zs off)) ?_ k;simp[hl,gi]
theorem uA{x y:Operand}{t n b off:Nat}{e:TypeId}{zs vs:List Int}(hI:Inv T w0 w m)(hx:a.eval x=.pointer (some ⟨b,off,none⟩))(hv:a.eval y=ia vs)(hu:aR (ib b e zs) (ib b e (dF zs off vs)) m m')
  (hT:fw P t n) (hl:vs.length=n) (hoff:off+n<=zs.length)
  (k:∀w',Inv T w0 w' m'->wpList P ops Q rest (a.put dst undef) w'):wpList P ops Q (⟨dst,.store t x y,ty,pos,af,none⟩::rest) a w:=
 aN hI hx (vs:=vs.map (Value.int .i64)) (by rw[hv];rfl) (by rw[uV];exact hu) hT.size (by simpa using hl) (by simpa using hoff) (Jd vs) k
theorem uB{x y:Operand}{t n b:Nat}{e:TypeId}{zs vs:List Int}(hI:Inv T w0 w m)(hx:a.eval x=.pointer (some ⟨b,0,none⟩))(hv:a.eval y=ia vs)(hu:aR (ib b e zs) (ib b e vs) m m')
  (hT:fw P t n) (hl:vs.length=n) (hoff:zs.length=n)
  (k:∀w',Inv T w0 w' m'->wpList P ops Q rest (a.put dst undef) w'):wpList P ops Q (⟨dst,.store t x y,ty,pos,af,none⟩::rest) a w:=
 uA hI hx hv (by rw[iZ zs vs OM];exact hu) hT hl OM k
theorem A7{x y:Operand}{t b off:Nat}{e:TypeId}{zs:List Int}{v:Int}(hI:Inv T w0 w m)(hx:a.eval x=.pointer (some ⟨b,off,none⟩))(hv:a.eval y=.int .i64 v)(hu:aR (ib b e zs) (ib b e (zs.set off v)) m m')
  (hT:jg P t) (hoff:off<zs.length)
  (k:∀w',Inv T w0 w' m'->wpList P ops Q rest (a.put dst undef) w'):wpList P ops Q (⟨dst,.store t x y,ty,pos,af,none⟩::rest) a w:=
 aN hI hx (vs:=[Value.int .i64 v]) (by rw[hv];rfl) (by rw[<-List.map_singleton,uV,YD zs off v hoff];exact hu) hT.size (by rfl) (by simp;omega) (by simp[Value.oneCell']) k
theorem jF{x y:Operand}{t b off:Nat}{e:TypeId}{cs:List Value}{v:Value}(hI:Inv T w0 w m)(hx:a.eval x=.pointer (some ⟨b,off,none⟩))(hv:a.eval y=v)(h1:v.oneCell'=true)(hc:v.cells=#[v])(hu:aR (blk b e cs) (blk b e (cs.set off v)) m m')
  (hT:jg P t) (hoff:off<cs.length)
  (k:∀w',Inv T w0 w' m'->wpList P ops Q rest (a.put dst undef) w'):wpList P ops Q (⟨dst,.store t x y,ty,pos,af,none⟩::rest) a w:=
 aN hI hx (vs:=[v]) (by rw[hv,hc]) (by
  have:splice cs off [v]=cs.set off v:=by
   rw[List.set_eq_take_append_cons_drop,if_pos hoff];simp[splice]
  rw[this];exact hu) hT.size (by rfl) OM (by intro u hu;obtain rfl:=List.mem_singleton.1 hu;exact h1) k
theorem EM{x:Operand}{t:TypeId}{zs:List Int}(hI:Inv T w0 w m)(hv:a.eval x=ia zs)
  (k:∀b w',Inv T w0 w' (ib b t zs::m)->wpList P ops Q rest (a.put dst (.pointer (some ⟨b,0,none⟩))) w'):wpList P ops Q (⟨dst,.box t x,ty,pos,af,none⟩::rest) a w:=
 bN hI (cs:=zs.map (Value.int .i64)) (by rw[hv];rfl) k
def fe(P:Program)(t n:Nat):Prop:=(P.info? t).map (·.zero)=some (some (ia (aj n)))
theorem A8{t n:Nat}(hI:Inv T w0 w m)(hz:fe P t n)
  (k:∀b w',Inv T w0 w' (ib b t (aj n)::m)->wpList P ops Q rest (a.put dst (.pointer (some ⟨b,0,none⟩))) w'):wpList P ops Q (⟨dst,.alloc t,ty,pos,af,none⟩::rest) a w:=
 aL hI hz rfl k
theorem Je(zs ws:List Int):eqv (zs.map (Value.int .i64)) (ws.map (Value.int .i64))=decide (zs=ws):=by
 unfold eqv;have:intOf∘(Value.int .i64)=id:=by funext x;rfl
 simp[this]
theorem yA(zs:List Int):∀v∈zs.map (Value.int .i64),I_ v:=by
 intro v hv;obtain⟨z,_,rfl⟩:=List.mem_map.1 hv;exact⟨z,rfl⟩
theorem yB{x y:Operand}{t t' n:Nat}{zs ws:List Int}(hx:a.eval x=ia zs)(hy:a.eval y=ia ws)(hT:fw P t n)(hF:nL P t n)(h1:zs.length=n)(h2:ws.length=n)
  (k:wpList P ops Q rest (a.put dst (.bool (decide (zs=ws)))) w):wpList P ops Q (⟨dst,.binOp .eql t x y t',ty,pos,af,none⟩::rest) a w:=
 Md hx hy hT hF (yA _) (yA _) (by simpa using h1) (by simpa using h2) (by rw[Je];exact k)
theorem jM{x y:Operand}{t t' n:Nat}{zs ws:List Int}(hx:a.eval x=ia zs)(hy:a.eval y=ia ws)(hT:fw P t n)(hF:nL P t n)(h1:zs.length=n)(h2:ws.length=n)
  (k:wpList P ops Q rest (a.put dst (.bool (!decide (zs=ws)))) w):wpList P ops Q (⟨dst,.binOp .neq t x y t',ty,pos,af,none⟩::rest) a w:=
 Me hx hy hT hF (yA _) (yA _) (by simpa using h1) (by simpa using h2) (by rw[Je];exact k)
structure A9 (P:Program) (t len e q:Nat):Prop where
 und:P.underlying t=some (.array len e)
 size:(P.info? e).map (·.size)=some q
theorem yC{e q off:Nat}{cs:List Value}(hT:fw P e q)(w:World):(part e cs.toArray off).run P w=.ok (.agg ((cs.drop off).take q).toArray) w:=by
 unfold part;rw[Sem.run_bind,hT.isAgg,Result.andThen_ok];simp only[if_true];rw[Sem.run_bind,dH hT.2,Result.andThen_ok];simp[Sem.run_pure,List.take_drop]
theorem pJ{e off:Nat}{cs:List Value}{v:Value}(hT:jg P e)(hv:cs[off]? =some v)(w:World):(part e cs.toArray off).run P w=.ok v w:=by
 unfold part;rw[Sem.run_bind,hT.isAgg,Result.andThen_ok];simp only[Bool.false_eq_true,if_false,List.getElem?_toArray,hv];rfl
theorem sw{t len e q:Nat}{k:IntKind}{i:Int}{cs:Array Value}(hA:A9 P t len e q)(h0:0<=i)(h1:i<len)(w:World):(Instr.index t (.agg cs) (.int k i)).run P w=(part e cs (i.toNat*q)).run P w:=by
 have hc:0<=i∧i<len:=⟨h0,h1⟩;simp[Instr.index,asIntOf,run_underlying hA.und,hc,dH hA.size]
theorem A_{x y:Operand}{t len e q:Nat}{k0:IntKind}{i:Int}{zs:List Int}(hx:a.eval x=ia zs)(hy:a.eval y=.int k0 i)(hA:A9 P t len e q)(hT:fw P e q)(h0:0<=i)(h1:i<len)
  (k:wpList P ops Q rest (a.put dst (ia (sub zs (i.toNat*q) q))) w):wpList P ops Q (⟨dst,.index t x y,ty,pos,af,none⟩::rest) a w:=by
 refine au ?_ k;unfold fP execOp;simp only[hx,hy,ia,Sem.run_bind,sw hA h0 h1,yC hT,Result.andThen_ok,sub,List.map_drop,List.map_take];rfl
theorem uC{x y:Operand}{t len e:Nat}{k0:IntKind}{i:Int}{zs:List Int}(hx:a.eval x=ia zs)(hy:a.eval y=.int k0 i)(hA:A9 P t len e 1)(hT:jg P e)(h0:0<=i)(h1:i<len)(hl:zs.length=len)
  (k:wpList P ops Q rest (a.put dst (.int .i64 (gi zs i.toNat))) w):wpList P ops Q (⟨dst,.index t x y,ty,pos,af,none⟩::rest) a w:=by
 refine au ?_ k;unfold fP execOp;have hi:i.toNat<zs.length:=by omega
 have hv:(zs.map (Value.int .i64))[i.toNat*1]? =some (.int .i64 (gi zs i.toNat)):=by simp[hi,gi]
 simp only[hx,hy,ia,Sem.run_bind,sw hA h0 h1,pJ hT hv,Result.andThen_ok];rfl
theorem BQ(l:List Field)(h:∀f∈l,(P.info? f.type).isSome=true)(w:World):∃r,(l.mapM (λf=>do pure (f.offset,<-sizeOf f.type):Field->Sem (Nat×Nat))).run P w=.ok r w:=by
 induction l with
 |nil=>exact⟨[],rfl⟩
 |cons f l ih=>
  obtain⟨r,hr⟩:=ih (λg hg=>h g (by simp[hg]));obtain⟨i,hi⟩:=Option.isSome_iff_exists.1 (h f SI);refine⟨(f.offset,i.size)::r,?_⟩;rw[List.mapM_cons];simp only[Sem.run_bind,dH (show(P.info? f.type).map (·.size)=some i.size by rw[hi];rfl),Result.andThen_ok,Sem.run_pure,hr]
def dC(P:Program)(t:TypeId):Prop:=(match P.underlying t with|some (.struct fs)=>fs.toList.all (λf=>(P.info? f.type).isSome) |some (.array _ e)=>(P.info? e).isSome |_=>false)=true
theorem tT{t:TypeId}{z:Value}{cs:Array Value}(hz:(P.info? t).map (·.zero)=some (some z))(hc:z.cells=cs)(hK:dC P t)(w:World):(Instr.build t #[]).run P w=.ok (.agg cs) w:=by
 obtain⟨i,hi,hz'⟩:=Option.map_eq_some_iff.1 hz;have hzv:(zeroValue t).run P w=.ok z w:=by simp[zeroValue,typeInfo,hi,hz']
 unfold dC at hK;cases hu:P.underlying t with
 |none=>simp[hu]at hK
 |some d=>
  rw[hu]at hK;cases d with
  |struct fs=>
   obtain⟨r,hr⟩:=BQ (P:=P) fs.toList (List.all_eq_true.1 hK) w;unfold Instr.build;simp only[Sem.run_bind,hzv,Result.andThen_ok,run_underlying hu];rw[<-Array.toArray_toList (xs:=fs),List.mapM_toArray];simp only[Sem.run_map,hr,Instr.fill];simp[Instr.fill,hc]
  |array n e=>
   obtain⟨j,hj⟩:=Option.isSome_iff_exists.1 hK;unfold Instr.build;simp only[Sem.run_bind,hzv,Result.andThen_ok,run_underlying hu,dH (show(P.info? e).map (·.size)=some j.size by rw[hj];rfl)];simp[Instr.fill,hc]
  |_=>cases hK
theorem zJ{t n:Nat}(hz:fe P t n)(hK:dC P t)
  (k:wpList P ops Q rest (a.put dst (ia (aj n))) w):wpList P ops Q (⟨dst,.build t #[],ty,pos,af,none⟩::rest) a w:=by
 refine au ?_ k;unfold fP execOp;simp only[Array.map_empty,Sem.run_bind,tT hz (Jc (aj n)) hK,Result.andThen_ok];rfl
theorem aF{fn:Func}{p u:Tmp}{t n b:Nat}{e:TypeId}{zs:List Int}{tmps:Array Value}(hI:Inv T w0 w m)(h:fn.results=#[.cell p t,.tmp u])(hp:tmps.getD p undef=.pointer (some ⟨b,0,none⟩))
  (hm:ib b e zs∈m) (hT:fw P t n) (hl:zs.length=n):(results fn tmps).run P w=.ok (.tuple #[ia zs,tmps.getD u undef]) w:=
 oW hI h hp hm hT (by simpa using hl)
theorem dI{fn:Func}{p:Tmp}{t n b:Nat}{e:TypeId}{zs:List Int}{tmps:Array Value}(hI:Inv T w0 w m)(h:fn.results=#[.cell p t])(hp:tmps.getD p undef=.pointer (some ⟨b,0,none⟩))
  (hm:ib b e zs∈m) (hT:fw P t n) (hl:zs.length=n):(results fn tmps).run P w=.ok (ia zs) w:=
 I7 hI h hp hm hT (by simpa using hl)
end
section
variable {P:Program}{ops:Array Oper}{Q:Exit->Act->World->Prop}{a:Act}{rest:List Oper}{T:List Nat}{w0 w:World}{m m':List aG}{dst:Option Tmp}{ty:TypeId}{pos:String}{af:Array Edge}
def placeOf(P:Program)(f:Field):Nat×Nat:=(f.offset,((P.info? f.type).map (·.size)).getD 0)
theorem l6(l:List Field)(h:∀f∈l,(P.info? f.type).isSome=true)(w:World):(l.mapM (λf=>do pure (f.offset,<-sizeOf f.type):Field->Sem (Nat×Nat))).run P w=.ok (l.map (placeOf P)) w:=by
 induction l with
 |nil=>rfl
 |cons f l ih=>
  have hr:=ih (λg hg=>h g (by simp[hg]));obtain⟨i,hi⟩:=Option.isSome_iff_exists.1 (h f SI);have hp:placeOf P f=(f.offset,i.size):=by unfold placeOf;rw[hi];rfl
  rw[List.mapM_cons,List.map_cons,hp];simp only[Sem.run_bind,dH (show(P.info? f.type).map (·.size)=some i.size by rw[hi];rfl),Result.andThen_ok,Sem.run_pure,hr]
theorem BR{x y:Operand}{t t' n:Nat}{zs:List Int}(hx:a.eval x=ia zs)(hy:a.eval y=ia zs)(hT:fw P t n)(hF:nL P t n)(h1:zs.length=n)
  (k:wpList P ops Q rest (a.put dst (.bool true)) w):wpList P ops Q (⟨dst,.binOp .eql t x y t',ty,pos,af,none⟩::rest) a w:=
 yB hx hy hT hF h1 h1 (by simpa using k)
theorem iy{x y:Operand}{t t' n:Nat}{zs:List Int}(hx:a.eval x=ia zs)(hy:a.eval y=ia zs)(hT:fw P t n)(hF:nL P t n)(h1:zs.length=n)
  (k:wpList P ops Q rest (a.put dst (.bool false)) w):wpList P ops Q (⟨dst,.binOp .neq t x y t',ty,pos,af,none⟩::rest) a w:=
 jM hx hy hT hF h1 h1 (by simpa using k)
end
def mW(w:World)(b off:Nat)(vs:List Value):Prop:=∀j (h:j<vs.length),w.cell? ⟨b,off+j,none⟩=some vs[j]
def rJ(w:World):List (World->Value->Prop)->List Value->Prop
 | [],[]=>True
 |p::ps,v::vs=>p w v∧rJ w ps vs
 |_,_=>False
theorem rJ.length{w:World}:∀ {ps:List (World->Value->Prop)} {vs:List Value},rJ w ps vs->vs.length=ps.length
 | [],[],_=>rfl
 |_::_,_::_,h=>by simp[rJ.length h.2]
theorem rJ.append{w:World}:∀ {ps:List (World->Value->Prop)} {vs:List Value} {qs:List (World->Value->Prop)} {us:List Value},rJ w ps vs->rJ w qs us->rJ w (ps++qs) (vs++us)
 | [],[],_,_,_,h=>h
 |_::_,_::_,_,_,h,h'=>⟨h.1,rJ.append h.2 h'⟩
def Mf(_:World)(v:Value):Prop:=∃z,v=iv z∧(Lit.int .i64 z).wf=true
def afr(_:World)(v:Value):Prop:=∃b,v=.bool b
structure Fb (w:World) (a:Option Addr) (len c:Nat) (ps:List (World->Value->Prop)) (row:Nat->List Value):Prop where
 nil:a=none->len=0∧c=0
 le:len<=c
 reach:c<=140737488351232
 row:∀i,i<len->rJ w ps (row i)∧∃b off,a=some ⟨b,off,none⟩∧mW w b (off+i*ps.length) (row i)
def Mg(ps:List (World->Value->Prop))(w:World)(v:Value):Prop:=∃a len c row,v=.slice a len c∧Fb w a len c ps row
def pU8(_:World)(v:Value):Prop:=∃c:UInt8,v=.int .u8 (c.toNat:Int)
structure CR (P:Program) (t:TypeId) (ps:List (World->Value->Prop)):Prop where
 cells:P.cellsOf t=ps.length
 all:∀(H:Type) (enc:TypeId×Value->H) (w:World) (fuel:Nat) (cs:List Value) (x:DataW H×List MemPlace),DataW.trod enc P w 0 (λ_=>true) true fuel t cs=some x->(∀n∈x.1.weights P t,n<=reachBytes)->rJ w ps cs
section
variable {P:Program}
theorem CR.int{t:TypeId}(ht:P.underlying t=some (.int .i64))(hc:P.cellsOf t=1):CR P t [Mf]:=
 ⟨hc,λH enc w fuel cs x h _=>by
  obtain⟨n,rfl,_,hw⟩:=DataW.trod_int ht h;exact⟨⟨n,rfl,hw⟩,trivial⟩⟩
theorem CR.u8{t:TypeId}(ht:P.underlying t=some (.int .u8))(hc:P.cellsOf t=1):CR P t [pU8]:=
 ⟨hc,λH enc w fuel cs x h _=>by
  obtain⟨n,rfl,_,hw⟩:=DataW.trod_int ht h;have:0<=n∧n<=255:=by simpa[Lit.wf,IntKind.min,IntKind.max,IntKind.bits,IntKind.signed]using hw
  exact⟨⟨UInt8.ofNat n.toNat,by simp;omega⟩,trivial⟩⟩
theorem CR.bool{t:TypeId}(ht:P.underlying t=some .bool)(hc:P.cellsOf t=1):CR P t [afr]:=
 ⟨hc,λH enc w fuel cs x h _=>by
  obtain⟨n,rfl,_⟩:=DataW.trod_bool ht h;exact⟨⟨n,rfl⟩,trivial⟩⟩
def om(P:Program):List (TypeId×Nat)->Nat->List (World->Value->Prop)->Prop
 | [],_,ps=>ps=[]
 |x::l,o,ps=>x.2=o∧∃qs rs,CR P x.1 qs∧om P l (o+qs.length) rs∧ps=qs++rs
theorem om.nil{o:Nat}:om P [] o []:=rfl
theorem om.cons{t o:Nat}{l:List (TypeId×Nat)}{qs rs:List (World->Value->Prop)}(h:CR P t qs)(hr:om P l (o+qs.length) rs):om P ((t,o)::l) o (qs++rs):=⟨rfl,qs,rs,h,hr,rfl⟩
theorem GX{H:Type}{ts:List TypeId}{ds:List (DataW H)}(h:∀n∈DataW.weightsEach P ts ds,n<=reachBytes){j:Nat}{t:TypeId}{d:DataW H}(ht:ts[j]? =some t)(hd:ds[j]? =some d):∀n∈d.weights P t,n<=reachBytes:=
 λn hn=>h n (DataW.weights_mem_each ht hd n hn)
theorem uX{H:Type}{e:TypeId}:∀ {ds:List (DataW H)},(∀n∈DataW.weightsAll P e ds,n<=reachBytes)->∀d∈ds,∀n∈d.weights P e,n<=reachBytes
 |d0::ds,h,d,hd,n,hn=>by
  simp only[DataW.weightsAll,List.mem_append]at h;rcases List.mem_cons.1 hd with rfl|hd
  ·exact h n (.inl hn)
  ·exact uX (λn hn=>h n (.inr hn)) d hd n hn
theorem yD{H:Type}{enc:TypeId×Value->H}{w:World}{n:Nat}{cs:List Value}:∀(l:List (TypeId×Nat)) (o:Nat) (ps:List (World->Value->Prop)) (xs:List (DataW H×List MemPlace)),om P l o ps->o+ps.length=cs.length->xs.length=l.length->
  (∀(i:Nat) (f:TypeId×Nat),l[i]? =some f->DataW.trod enc P w 0 (λ_=>true) true n f.1 ((cs.drop f.2).take (P.cellsOf f.1))=xs[i]?)->
  (∀(i:Nat) f x,l[i]? =some f->xs[i]? =some x->∀k∈x.1.weights P f.1,k<=reachBytes)->rJ w ps (cs.drop o)
 | [],o,ps,xs,h,hl,_,_,_=>by
  have h:ps=[]:=h;subst h;rw[List.drop_eq_nil_of_le (by simpa using(Nat.le_of_eq hl.symm))]
  trivial
 |f::l,o,ps,xs,⟨ho,qs,rs,hq,hr,hps⟩,hl,hx,hf,hw=>by
  subst hps;cases xs with
  |nil=>simp at hx
  |cons x xs=>
   have h0:=hf 0 f rfl;simp only[List.getElem?_cons_zero]at h0;have h1:=hq.all H enc w n _ _ h0 (hw 0 f x rfl rfl);rw[ho,hq.cells]at h1;simp only[List.length_append]at hl;have h2:=yD (cs:=cs) l (o+qs.length) rs xs hr OM (by simpa using hx) (λi g hg=>by simpa using hf (i+1) g (by simpa using hg)) (λi g y hg hy=>hw (i+1) g y (by simpa using hg) (by simpa using hy));have e:cs.drop o=(cs.drop o).take qs.length++cs.drop (o+qs.length):=by rw[<-List.drop_drop,List.take_append_drop]
   rw[e];exact h1.append h2
def fieldAt(f:Field):TypeId×Nat:=(f.type,f.offset)
theorem CR.struct{t:TypeId}{l:List (TypeId×Nat)}{ps:List (World->Value->Prop)}(ht:P.underlying t=some (.struct (P.fieldsOf t)))(hl:(P.fieldsOf t).toList.map fieldAt=l)(hc:P.cellsOf t=ps.length)(h:om P l 0 ps):CR P t ps:=
 ⟨hc,λH enc w fuel cs x hx hw=>by
  obtain⟨xs,n,_,hxe,hlen,hxl,hf⟩:=DataW.trod_struct ht hx;have hw':∀n∈DataW.weightsEach P ((P.fieldsOf t).toList.map (·.type)) (xs.map (·.1)),n<=reachBytes:=by
   rw[hxe]at hw;simpa[DataW.weights,ht]using hw
  have:=yD (enc:=enc) (w:=w) (n:=n) (cs:=cs) l 0 ps xs h (by rw[Nat.zero_add,hlen,hc]) (by rw[<-hl,hxl];simp)
   (λi g hg=>by
    rw[<-hl,List.getElem?_map]at hg;obtain⟨f,hf',rfl⟩:=Option.map_eq_some_iff.1 hg;exact hf i f (by simpa using hf'))
   (λi g x hg hx k hk=>by
    rw[<-hl,List.getElem?_map]at hg;obtain⟨f,hf',rfl⟩:=Option.map_eq_some_iff.1 hg;exact GX hw' (j:=i) (t:=f.type) (d:=x.1) (by simp[hf']) (by simp[hx]) k hk)
  simpa using this⟩
theorem CR.array{t e k:Nat}{ps:List (World->Value->Prop)}(ht:P.underlying t=some (.array k e))(he:CR P e ps)(hc:P.cellsOf t=k*ps.length):CR P t (List.replicate k ps).flatten:=
 ⟨by simp[hc],λH enc w fuel cs x hx hw=>by
  obtain⟨xs,n,_,hxe,hlen,hxl,hf⟩:=DataW.trod_array ht hx;have hw':∀n∈DataW.weightsAll P e (xs.map (·.1)),n<=reachBytes:=by
   rw[hxe]at hw;simpa[DataW.weights,ht]using hw
  have key:∀(m i:Nat),i+m=k->rJ w (List.replicate m ps).flatten (cs.drop (i*ps.length)):=by
   intro m
   induction m with
   |zero=>
    intro i hi;rw[List.drop_eq_nil_of_le (by rw[hlen,hc];simp at hi;subst hi;exact Nat.le_refl _)]
    trivial
   |succ m ih=>
    intro i hi;have h0:=hf i OM;have hxi:xs[i]? =some (xs[i]'OM):=by simp[show i<xs.length by omega]
    rw[hxi,he.cells]at h0;have h1:=he.all H enc w n _ _ h0 (uX hw' _ (List.mem_map.2 ⟨xs[i]'OM,List.getElem_mem _,rfl⟩));have h2:=ih (i+1) OM;have e:cs.drop (i*ps.length)=(cs.drop (i*ps.length)).take ps.length++cs.drop ((i+1)*ps.length):=by rw[Nat.succ_mul,<-List.drop_drop,List.take_append_drop]
    rw[e,List.replicate_succ,List.flatten_cons];exact h1.append h2
  simpa using key k 0 OM⟩
theorem CR.slice{t e by_:Nat}{ps:List (World->Value->Prop)}(ht:P.underlying t=some (.slice e))(he:CR P e ps)(hc:P.cellsOf t=1)(hpos:0<ps.length)(hby:P.bytesOf e=by_)(hb:0<by_):CR P t [Mg ps]:=
 ⟨hc,λH enc w fuel cs x hx hw=>by
  rcases DataW.trod_slice ht hx with⟨rfl,_⟩ | ⟨a,len,cap,elems,rest,n,_,rfl,hxe,_,hl,hm,hel,hi,hsp,_⟩
  ·exact⟨⟨none,0,0,λ_=>[],rfl,λ_=>⟨rfl,rfl⟩,Nat.le_refl _,by omega,λi hi=>by omega⟩,trivial⟩
  ·rw[hxe]at hw
   simp only[DataW.weights,ht,List.mem_cons,List.mem_append,List.length_map]at hw;have hsz:(elems.length+rest.length)*P.bytesOf e<=reachBytes:=hw _ (.inl rfl);have hrest:=(hsp rfl).1;have hcap:cap<=140737488351232:=by
    rw[hel,hrest,hby]at hsz;have:cap*1<=(len+(cap-len))*by_:=Nat.mul_le_mul OM hb;simp only[reachBytes]at hsz;omega
   have elem:∀i,i<len->∃r:List Value,rJ w ps r∧r.length=ps.length∧∀j,j<ps.length->w.cell? ((a.add (i*ps.length)).add j)=r[j]? :=by
    intro i hil;have h0:=hi i hil;have hxi:elems[i]? =some (elems[i]'OM):=by simp[show i<elems.length by omega]
    rw[hxi,he.cells]at h0;obtain⟨r,hr,ht'⟩:=Option.bind_eq_some_iff.1 h0;have hall:=he.all H enc w n r _ ht' (uX (λn hn=>hw n (.inr (.inl hn))) _ (List.mem_map.2 ⟨elems[i]'OM,List.getElem_mem _,rfl⟩));obtain⟨_,hrl,hat⟩:=World.cells?_some hr;exact⟨r,hall,hrl,hat⟩
   have each:∀i,∃r:List Value,i<len->rJ w ps r∧∃b off,some a=some ⟨b,off,none⟩∧mW w b (off+i*ps.length) r:=by
    intro i;by_cases hil:i<len
    ·obtain⟨r,hall,hrl,hat⟩:=elem i hil
     refine⟨r,λ_=>⟨hall,?_⟩⟩;obtain⟨r0,_,aiY,ahr⟩:=elem 0 OM;have hc0:=ahr 0 hpos;have hr0:r0[0]? =some (r0[0]'OM):=by simp[show 0<r0.length by omega]
     rw[hr0]at hc0;have hs0:=World.cell?_spot hc0;obtain⟨b,off,spot⟩:=a;have hspot:spot=none:=by simpa[Addr.add]using hs0
     subst hspot;refine⟨b,off,rfl,λj hj=>?_⟩;have:=hat j OM;rw[jE,jE]at this;rw[this];simp[hj]
    ·exact⟨[],λh=>absurd h hil⟩
   obtain⟨row,hrow⟩:=Classical.axiomOfChoice each;exact⟨⟨some a,len,cap,row,rfl,λh=>(nomatch h),hl,hcap,hrow⟩,trivial⟩⟩
theorem O1{H:Type}{enc:TypeId×Value->H}{W:World}{t e:TypeId}{v:Value}{d:DataW H}{p:List MemPlace}{base:Nat}{ps:List (World->Value->Prop)}
  (hR:CR P t [Mg ps]) (ht:P.underlying t=some (.slice e)) (hok:Value.okWide P W .any base t v) (h:DataW.Trod enc P W 0 (λ_=>true) true t v d p) (hw:∀n∈d.weights P t,n<=reachBytes):∃a:Option Addr×Nat×Nat×(Nat->List Value),v=.slice a.1 a.2.1 a.2.2.1∧Fb W a.1 a.2.1 a.2.2.1 ps a.2.2.2:=by
 obtain⟨a,len,cap,rfl⟩:=Go.WideShapes.okWide_slice ht hok;obtain⟨fuel,hf⟩:=h;obtain⟨⟨a',len',c',row,hv,hs⟩,_⟩:=hR.all H enc W fuel _ _ hf hw;cases hv;exact⟨⟨a,len,cap,row⟩,rfl,hs⟩
theorem rJ.ints{w:World}:∀ {n:Nat} {vs:List Value},rJ w (List.replicate n Mf) vs->∃zs:List Int,vs=zs.map iv∧zs.length=n∧∀z∈zs,(Lit.int .i64 z).wf=true
 |0,[],_=>⟨[],rfl,rfl,by simp⟩
 |n+1,v::vs,h=>by
  obtain⟨⟨z,rfl,hz⟩,h2⟩:=h;obtain⟨zs,rfl,hl,hw⟩:=rJ.ints h2;exact⟨z::zs,rfl,by simp[hl],by simpa using⟨hz,hw⟩⟩
theorem mW.later{T:List Nat}{w0 w:World}{m:List aG}{b off:Nat}{vs:List Value}(hc:mW w0 b off vs)(hI:Inv T w0 w m)(hb:b∉T):mW w b off vs:=by
 intro j hj;have h:=hc j hj;have hlt:=World.block_lt_of_cell? _ _ h;rw[<-h];exact World.cell?_of_block (hI.old b hlt hb)
theorem uD{w:World}{b off:Nat}{vs:List Value}(hc:mW w b off vs):∀(n i:Nat) (acc:Array Value),i+n=vs.length->(loadCellsFrom ⟨b,off,none⟩ i n acc).run P w=.ok (acc++(vs.drop i).toArray) w
 |0,i,acc,h=>by
  rw[List.drop_eq_nil_of_le OM];simp[loadCellsFrom]
 |n+1,i,acc,h=>by
  have hi:i<vs.length:=by omega
  have hl:(load ((⟨b,off,none⟩:Addr).add i)).run P w=.ok vs[i] w:=by
   rw[jE,load,Sem.run,hc i hi];rfl
  rw[loadCellsFrom,Sem.run_bind,hl,Result.andThen_ok,uD hc n (i+1) _ OM,List.drop_eq_getElem_cons hi];simp
variable {ops:Array Oper}{Q:Exit->Act->World->Prop}{a:Act}{rest:List Oper}{T:List Nat}{w0 w:World}{m:List aG}{dst:Option Tmp}{ty:TypeId}{pos:String}{af:Array Edge}
theorem uE{x:Operand}{t b off:Nat}{vs:List Value}(hI:Inv T w0 w m)(hx:a.eval x=.pointer (some ⟨b,off,none⟩))(hc:mW w0 b off vs)(hb:b∉T)(hT:fw P t vs.length)
  (k:wpList P ops Q rest (a.put dst (.agg vs.toArray)) w):wpList P ops Q (⟨dst,.load t x,ty,pos,af,none⟩::rest) a w:=by
 refine au ?_ k;have hc':=hc.later hI hb;unfold fP execOp;simp only[hx,Instr.loadAt,Instr.sureAddr,Sem.run_bind,Sem.run_pure,Result.andThen_ok,loadVar,hT.isAgg,if_true,dH hT.size,loadCells,uD hc' vs.length 0 #[] OM];simp
end
section
variable {P:Program}{ops:Array Oper}{md:Region.Mode}{Q:Exit->Act->World->Prop}
def Fe(K:Act->World->Prop):Exit->Act->World->Prop:=λe a w=>e=.normal∧K a w
theorem fB{K:Act->World->Prop}{a:Act}{w:World}(h:K a w):Fe K .normal a w:=⟨rfl,h⟩
theorem ow{o:Oper}{a:Act}{w:World}{K:Act->World->Prop}(hw:Region.wanted o (yielded ops a.tmps)=true)(h:wpList P ops (Fe K) [o] a w):o.wp P a w K Q:=by
 unfold wpList at h;rw[if_pos hw]at h;rcases h with h| ⟨_,a',w',h⟩
 ·unfold Oper.wp at h|-
  generalize(execOp a.eval o).run P w=r at h;have one:∀a w,wpList P ops (Fe K) [] a w->K a w:=λa w hh=>hh.2
  cases r with
  |ok n w'=>
   cases n<;>simp only[Oper.upon]at h|-
   case value u=>exact one _ _ h
   case skip=>exact one _ _ h
   case defer d=>exact one _ _ h
   case enter f args=>
    refine h.mono λe w'' hh=>?_
    cases e with
    |returned u=>exact one _ _ hh
    |panicked c=>cases hh.1
    |outgrown=>obtain⟨_,_,hh⟩:=hh;cases hh.1
   case row r args=>exact h.mono λu w'' hh=>one _ _ hh
  |halt x w'=>cases x<;>simp only[Oper.upon]at h|-<;>(cases h.1;done)
 ·cases h.1
theorem TE{i:Nat}{o:Oper}{fuel:Nat}{listed:Array Bool}{a:Act}{w:World}(ho:ops[i]? =some o)(hw:Region.wanted o (yielded ops a.tmps)=true)
  (h:wpList P ops (Fe (wpAny P md ops Q fuel (listed.setIfInBounds i true))) [o] a w):wpOp P ops Q i (wpAny P md ops Q fuel (listed.setIfInBounds i true)) a w:=by
 unfold wpOp;rw[ho];simp only;rw[if_pos hw];exact .inl (ow hw h)
theorem Ff{l:List Oper}{i:Nat}{o:Oper}{fuel:Nat}{listed:Array Bool}{a:Act}{w:World}(ho:l[i]? =some o)(hw:Region.wanted o (yielded l.toArray a.tmps)=true)
  (h:wpList P l.toArray (Fe (wpAny P md l.toArray Q fuel (listed.setIfInBounds i true))) [o] a w):wpOp P l.toArray Q i (wpAny P md l.toArray Q fuel (listed.setIfInBounds i true)) a w:=
 TE (by simpa using ho) hw h
theorem O3{i:Nat}{fuel:Nat}{listed:Array Bool}{a:Act}{w:World}(hr:Region.ready md ops listed=[i])
  (h:wpOp P ops Q i (wpAny P md ops Q fuel (listed.setIfInBounds i true)) a w):wpAny P md ops Q (fuel+1) listed a w:=
 wpAny_all hr SI (λj hj=>by obtain rfl:=List.mem_singleton.1 hj;exact h)
end
section
variable {P:Program}{ops:Array Oper}{md:Region.Mode}{Q:Exit->Act->World->Prop}{C:World->Prop}
def qf(C:World->Prop)(P:Program)(md:Region.Mode)(ops:Array Oper)(Q:Exit->Act->World->Prop):Nat->Array Bool->Act->World->Prop
 |0,listed,a,w=>C w∧Region.ready md ops listed=[]∧Q .normal a w
 |fuel+1,listed,a,w=>C w∧(Region.ready md ops listed=[]->Q .normal a w)∧∀i∈Region.ready md ops listed,wpOp P ops Q i (qf C P md ops Q fuel (listed.setIfInBounds i true)) a w
theorem qf.cls:∀ {fuel:Nat} {listed:Array Bool} {a:Act} {w:World},qf C P md ops Q fuel listed a w->C w
 |0,_,_,_,h=>h.1
 |_+1,_,_,_,h=>h.1
theorem qf.any:∀ {fuel:Nat} {listed:Array Bool} {a:Act} {w:World},qf C P md ops Q fuel listed a w->wpAny P md ops Q fuel listed a w
 |0,_,_,_,h=>h.2
 |_+1,_,_,_,h=>⟨h.2.1,λi hi=>wpOp_mono (λ_ _ hh=>hh.any) (h.2.2 i hi)⟩
def zK(C:World->Prop)(P:Program)(ops:Array Oper)(o:Oper)(v:Value)(a:Act):Prop:=
 Region.wanted o (yielded ops a.tmps)=true∧∀w,C w->(execOp a.eval o).run P w=.ok (.value v) w
theorem zK.op{i:Nat}{o:Oper}{v:Value}{a:Act}{w:World}{K:Act->World->Prop}(hi:ops[i]? =some o)(hy:zK C P ops o v a)(hc:C w)(h:K (a.put o.dst v) w):wpOp P ops Q i K a w:=by
 unfold wpOp;rw[hi];simp only;rw[if_pos hy.1]
 left
 unfold Oper.wp;rw[hy.2 w hc];exact h
theorem zK.same{o:Oper}{v:Value}{a a':Act}(hy:zK C P ops o v a)(he:execOp a'.eval o=execOp a.eval o)(hw:Region.wanted o (yielded ops a'.tmps)=Region.wanted o (yielded ops a.tmps)):zK C P ops o v a':=
 ⟨hw.trans hy.1,λw hc=>by rw[he];exact hy.2 w hc⟩
theorem zK.Mh{j:Nat}{oi oj:Oper}{v:Value}(hj:ops[j]? =some oj)(hap:oi.apart ops oj=true)(hsi:∀cs b,oi.op≠ .select cs b)(hsj:∀cs b,oj.op≠ .select cs b)
  (hQ:∀c a w,Q (.panic c) (a.put oi.dst v) w->Q (.panic c) a w) {K:Act->World->Prop} {a:Act} {w:World} (hy:zK C P ops oi v a) (h:wpOp P ops Q j K (a.put oi.dst v) w):
  wpOp P ops Q j (λa' w'=>zK C P ops oi v a'∧K (a'.put oi.dst v) w') a w:=by
 obtain⟨h1,h2,h3⟩:=Oper.apart_spec hap;have stay:∀u,zK C P ops oi v (a.put oj.dst u):=λu=>hy.same (execOp_put oi hsi a oj.dst u h3) (wanted_put oi a oj.dst u h3)
 have swap:∀u w',K ((a.put oi.dst v).put oj.dst u) w'->zK C P ops oi v (a.put oj.dst u)∧K ((a.put oj.dst u).put oi.dst v) w':=λu w' hk=>⟨stay u,by rw[<-Act.put_comm a v u h2];exact hk⟩
 unfold wpOp at h|-;rw[hj]at h|-;simp only at h|-;rw[wanted_put oj a oi.dst v h1]at h;by_cases hw:Region.wanted oj (yielded ops a.tmps)=true
 ·rw[if_pos hw]at h|-
  rcases h with h| ⟨ha,hl⟩
  ·left
   unfold Oper.wp at h|-;rw[execOp_put oj hsj a oi.dst v h1]at h;generalize(execOp a.eval oj).run P w=r at h|-;cases r with
   |ok n w'=>
    cases n<;>simp only[Oper.upon]at h|-
    case value u=>exact swap u w' h
    case skip=>exact swap _ w' h
    case defer d=>
     have hy':zK C P ops oi v {a with defers:=d::a.defers}:=hy.same rfl rfl;refine⟨hy'.same (execOp_put oi hsi _ oj.dst undef h3) (wanted_put oi _ oj.dst undef h3),?_⟩;rw[<-Act.put_comm _ v undef h2,<-Act.put_defers];exact h
    case enter f args=>
     refine h.mono λe w'' he=>?_
     cases e with
     |returned u=>exact swap u w'' he
     |panicked c=>exact hQ _ _ _ he
     |outgrown=>exact he
    case row r args=>exact h.mono λu w'' he=>swap u w'' he
   |halt x w'=>
    cases x<;>simp only[Oper.upon]at h|-
    case panic u=>exact hQ _ _ _ h
  ·right
   refine⟨?_,hl⟩;unfold Oper.asks at ha|-;rw[execOp_put oj hsj a oi.dst v h1]at ha;exact ha
 ·rw[if_neg hw]at h|-
  exact swap _ w h
theorem Mi{i:Nat}{oi:Oper}{v:Value}(hi:ops[i]? =some oi)(hsel:∀(j:Nat) (o:Oper) cs b,ops[j]? =some o->o.op≠ .select cs b)(hQ:∀c a w,Q (.panic c) (a.put oi.dst v) w->Q (.panic c) a w):
  ∀(fuel:Nat) (listed:Array Bool) (a:Act) (w:World),
   (∀j oj,ops[j]? =some oj->j≠i->listed.getD j true=false->(∀e∈oj.after,Region.binds md e=true->e.on≠i)->oi.apart ops oj=true)->
   i∈Region.ready md ops listed->zK C P ops oi v a->qf C P md ops Q fuel (listed.setIfInBounds i true) (a.put oi.dst v) w->qf C P md ops Q (fuel+1) listed a w:=by
 intro fuel
 induction fuel with
 |zero=>
  intro listed a w _ hr hy H;refine⟨H.cls,λh=>(by rw[h]at hr;cases hr),λj hj=>?_⟩;by_cases hji:j=i
  ·subst hji;exact hy.op hi H.cls H
  ·have h0:=ready_mono hj hji
   rw[H.2.1]at h0;cases h0
 |succ fuel ih=>
  intro listed a w hfree hr hy H;refine⟨H.cls,λh=>(by rw[h]at hr;cases hr),λj hj=>?_⟩;by_cases hji:j=i
  ·subst hji;exact hy.op hi H.cls H
  ·obtain⟨hjun,oj,hoj,hall⟩:=mem_ready.1 hj
   have hnot:∀e∈oj.after,Region.binds md e=true->e.on≠i:=λe he hb heq=>by
    have h1:=hall e he hb;have h0:=(mem_ready.1 hr).1;rw[heq]at h1;rcases Nat.lt_or_ge i listed.size with h'|h'
    ·simp[h']at h0 h1;rw[h0]at h1;cases h1
    ·simp[Array.getElem?_eq_none h']at h1
   have h2:=hy.Mh hoj (hfree j oj hoj hji hjun hnot) (λcs b=>hsel i oi cs b hi) (λcs b=>hsel j oj cs b hoj) hQ (H.2.2 j (ready_mono hj hji));refine wpOp_mono (λa' w' h3=>ih (listed.setIfInBounds j true) a' w' (λk ok hk hki hun hno=>hfree k ok hk hki ?_ hno) (ready_mono hr (Ne.symm hji)) h3.1 ?_) h2
   ·by_cases hjk:j=k
    ·subst hjk;exact hjun
    ·rw[getD_set_ne true hjk]at hun;exact hun
   ·rw[Array.setIfInBounds_comm _ _ hji]
    exact h3.2
theorem bU{i:Nat}{oi:Oper}{v:Value}{fuel:Nat}{listed:Array Bool}{a:Act}{w:World}(hi:ops[i]? =some oi)
  (hs:Region.noSelect ops=true) (hf:Region.free md ops listed i=true) (hr:(Region.ready md ops listed).contains i=true)
  (hQ:∀c a w,Q (.panic c) (a.put oi.dst v) w->Q (.panic c) a w) (hy:zK C P ops oi v a)
  (h:qf C P md ops Q fuel (listed.setIfInBounds i true) (a.put oi.dst v) w):qf C P md ops Q (fuel+1) listed a w:=
 Mi hi (Region.noSelect_spec hs) hQ fuel listed a w (Region.free_spec hi hf) (by simpa using hr) hy h
theorem iA{i:Nat}{fuel:Nat}{listed:Array Bool}{a:Act}{w:World}(hr:Region.ready md ops listed=[i])(hc:C w)
  (h:wpOp P ops Q i (qf C P md ops Q fuel (listed.setIfInBounds i true)) a w):qf C P md ops Q (fuel+1) listed a w:=
 ⟨hc,λh0=>absurd (h0.symm.trans hr) SI,λj hj=>by rw[hr]at hj;obtain rfl:=List.mem_singleton.1 hj;exact h⟩
theorem TF{i j:Nat}{fuel:Nat}{listed:Array Bool}{a:Act}{w:World}(hr:Region.ready md ops listed=[i,j])(hc:C w)
  (h:wpOp P ops Q i (qf C P md ops Q fuel (listed.setIfInBounds i true)) a w) (h':wpOp P ops Q j (qf C P md ops Q fuel (listed.setIfInBounds j true)) a w):qf C P md ops Q (fuel+1) listed a w:=
 ⟨hc,λh0=>absurd (h0.symm.trans hr) SI,λk hk=>by
  rw[hr]at hk;rcases List.mem_cons.1 hk with rfl|hk
  ·exact h
  ·obtain rfl:=List.mem_singleton.1 hk;exact h'⟩
theorem vT{listed:Array Bool}{a:Act}{w:World}(hr:Region.ready md ops listed=[])(hc:C w)(h:Q .normal a w):∀fuel,qf C P md ops Q fuel listed a w
 |0=>⟨hc,hr,h⟩
 |_+1=>⟨hc,λ_=>h,by rw[hr];simp⟩
theorem ed{l:List Oper}{i:Nat}{o:Oper}{fuel:Nat}{listed:Array Bool}{a:Act}{w:World}(ho:l[i]? =some o)(hw:Region.wanted o (yielded l.toArray a.tmps)=true)
  (h:wpList P l.toArray (Fe (qf C P md l.toArray Q fuel (listed.setIfInBounds i true))) [o] a w):wpOp P l.toArray Q i (qf C P md l.toArray Q fuel (listed.setIfInBounds i true)) a w:=by
 unfold wpOp;rw[show l.toArray[i]? =some o by simpa using ho];simp only;rw[if_pos hw];exact .inl (ow hw h)
theorem qU{id:Nat}{a:Act}{w:World}(C:World->Prop)(hm:P.follows .mixedOrders=true)
  (h:qf C P .any ops Q ops.size (Array.replicate ops.size false) a w.drew):(Code.region id ops true).wp P Q a w:=
 wp_region_any hm h.any
end
def Bt:Op->Bool
 | .alloc .. | .box .. | .build .. | .buildSlice .. | .load .. | .store .. | .binOp .. | .unOp .. | .convert .. | .sliceToArrayPointer .. | .makeInterface .. | .makeFunc .. | .makeMap .. | .makeChan .. | .makeSlice .. | .slice .. | .fieldAddr ..
 | .field .. | .indexAddr .. | .index .. | .lookup .. | .mapUpdate .. | .insert .. | .mapEntry .. | .entryStore .. | .range .. | .typeAssert .. | .extract .. | .move .. | .assign .. | .pick .. =>true
 | .call c=>(match c.callee with| .builtin .append | .builtin .len | .builtin .cap | .builtin .copy | .builtin .min | .builtin .max | .builtin .delete=>true|_=>false)
 |_=>false
section
variable {P:Program}{ops:Array Oper}
theorem GY{s:Sem Value}{w w':World}{n:Next}(h:(do pure (Next.value (<-s)):Sem Next).run P w=.ok n w'):∃v,n=.value v:=by
 rw[Sem.run_bind]at h;cases hs:s.run P w with
 |ok v w1=>rw[hs,Result.andThen_ok,Sem.run_pure]at h;cases h;exact⟨v,rfl⟩
 |halt x w1=>rw[hs]at h;cases h
theorem GZ{s:Sem Unit}{w w':World}{n:Next}(h:(do s;pure Next.skip:Sem Next).run P w=.ok n w'):n=.skip:=by
 rw[Sem.run_bind]at h;cases hs:s.run P w with
 |ok v w1=>rw[hs,Result.andThen_ok,Sem.run_pure]at h;cases h;rfl
 |halt x w1=>rw[hs]at h;cases h
theorem Mj{o:Oper}{ρ:Operand->Value}{w w':World}{n:Next}(hp:Bt o.op=true)(h:(execOp ρ o).run P w=.ok n w'):(∃v,n=.value v)∨n=.skip:=by
 obtain⟨dst,op,ty,pos,af,g⟩:=o;cases op<;>simp only[Bt,Bool.false_eq_true]at hp<;>simp only[execOp]at h
 case move=>rw[Sem.run_pure]at h;cases h;exact .inl ⟨_,rfl⟩
 case assign=>rw[Sem.run_pure]at h;cases h;exact .inl ⟨_,rfl⟩
 case store=>exact .inr (GZ h)
 case mapUpdate=>exact .inr (GZ h)
 case insert=>exact .inr (GZ h)
 case entryStore=>exact .inr (GZ h)
 case pick=>
  rw[Sem.run_bind]at h
  rename_i c x y
  cases hb:(asBool (ρ c)).run P w with
  |ok v w1=>rw[hb,Result.andThen_ok,Sem.run_pure]at h;cases h;exact .inl ⟨_,rfl⟩
  |halt x w1=>rw[hb]at h;cases h
 case call c=>
  obtain⟨callee,args,ats⟩:=c;cases callee with
  |builtin b=>
   simp only[resolve,Sem.run_bind,Sem.run_pure,Result.andThen_ok,invoke]at h;cases b<;>simp only[Bool.false_eq_true]at hp<;>exact .inl (GY h)
  |invoke=>simp at hp
  |value=>simp at hp
 all_goals exact .inl (GY h)
variable {S:List Nat}{E:World->Prop}{F:(World->Prop)->Act->Prop}{rest:List Oper}{k:Nat}{a:Act}{dst:Option Tmp}{op:Op}{ty:TypeId}{pos:String}{af:Array Edge}{g:Option (Nat×Bool)}{w:World}
theorem Aq{K:Act->World->Prop}{Q:Exit->Act->World->Prop}(h:Oper.wp P ⟨dst,op,ty,pos,af,none⟩ a w K Q):Oper.wp P ⟨dst,op,ty,pos,af,g⟩ a w K Q:=by
 unfold Oper.wp at h|-;have e:execOp a.eval ⟨dst,op,ty,pos,af,g⟩=execOp a.eval ⟨dst,op,ty,pos,af,none⟩:=rfl;rw[e];generalize(execOp a.eval ⟨dst,op,ty,pos,af,none⟩).run P w=r at h|-;cases r with
 |ok n w'=>cases n<;>exact h
 |halt x w'=>cases x<;>exact h
theorem YE{Q:Exit->Act->World->Prop}(hp:Bt op=true)(hQ:∀e a w,Q e a w->e=.normal)(h:wpList P ops Q [⟨dst,op,ty,pos,af,none⟩] a w):
  ∃v w',Q .normal (a.put dst v) w'∧∀C':World->Prop,C' w'->Oper.wp P ⟨dst,op,ty,pos,af,g⟩ a w (wN (a.put dst v) C') (λ_ _ _=>False):=by
 unfold wpList at h;rw[if_pos (by simp[Region.wanted])]at h;rcases h with h| ⟨_,_,_,h⟩
 ·unfold Oper.wp at h
  have hpn:∀n w',(execOp a.eval ⟨dst,op,ty,pos,af,none⟩).run P w=.ok n w'->(∃v,n=.value v)∨n=.skip:=λn w' hr=>Mj hp hr
  cases hr:(execOp a.eval ⟨dst,op,ty,pos,af,none⟩).run P w with
  |ok n w'=>
   rcases hpn n w' hr with⟨v,rfl⟩ |rfl
   ·rw[hr]at h
    refine⟨v,w',h,λC' hC=>Aq ?_⟩;unfold Oper.wp;rw[hr];exact⟨rfl,hC⟩
   ·rw[hr]at h
    refine⟨undef,w',h,λC' hC=>Aq ?_⟩;unfold Oper.wp;rw[hr];exact⟨rfl,hC⟩
  |halt x w'=>
   rw[hr]at h;cases x<;>simp only[Oper.upon]at h
   exact absurd (hQ _ _ _ h) SI
 ·exact absurd (hQ _ _ _ h) SI
def Nxs(P:Program)(ops:Array Oper)(S:List Nat)(E:World->Prop)(F:(World->Prop)->Act->Prop)(rest:List Oper)(k:Nat)(w:World):Exit->Act->World->Prop:=λe a w'=>e=.normal∧w'=w∧kF P ops S E F rest k (λx=>x=w) a
theorem Mk(hw:Region.wanted ⟨dst,op,ty,pos,af,g⟩ (yielded ops a.tmps)=true)(hrd:rd ops S k=true)(hp:Bt op=true)
  (h:wpList P ops (Nxs P ops S E F rest (k+1) w) [⟨dst,op,ty,pos,af,none⟩] a w):kF P ops S E F (⟨dst,op,ty,pos,af,g⟩::rest) k (λx=>x=w) a:=by
 obtain⟨v,w',⟨_,rfl,hn⟩,hr⟩:=YE (g:=g) hp (λ_ _ _ h=>h.1) h;unfold kF;rw[if_pos hw];refine⟨v,λx=>x=w',hn,.inr ⟨hrd,.inl rfl,λx hx=>?_⟩⟩;subst hx;exact hr _ rfl
theorem wV{id:Nat}{l:List Oper}{Q:Exit->Act->World->Prop}(S:List Nat)(hm:P.follows .mixedOrders=true)(hB:O0 l.toArray S=true)
  (h:kF P l.toArray S (λ_=>True) (λC a=>∀w,C w->Q .normal a w) l 0 (λx=>x=w.drew) a):(Code.region id l.toArray true).wp P Q a w:=
 aH S (λ_=>True) (C:=λx=>x=w.drew) rfl (λ_ _=>trivial) hm hB h
end
section
variable {P:Program}{ops:Array Oper}
def EN(R:World->Prop)(P:Program)(ops:Array Oper)(o:Oper)(v:Value)(a:Act):Prop:=
 (Region.wanted o (yielded ops a.tmps)=true∧∀w,R w->(execOp a.eval o).run P w=.ok (.value v) w)∨(Region.wanted o (yielded ops a.tmps)=false∧v=undef)
theorem EN.same{R:World->Prop}{o:Oper}{v:Value}{a a':Act}(hy:EN R P ops o v a)(he:execOp a'.eval o=execOp a.eval o)(hw:Region.wanted o (yielded ops a'.tmps)=Region.wanted o (yielded ops a.tmps)):EN R P ops o v a':=by
 unfold EN at*;rw[he,hw];exact hy
def jW(P:Program)(ops:Array Oper)(S F G:List Nat)(C:World->Prop)(Q:Exit->Act->World->Prop):List Nat->Act->World->Prop
 | [],a,w=>Q .normal a w
 |i::is,a,w=>∃o,ops[i]? =some o∧
   ((S.elem i=true∧wpOp P ops (λ_ _ _=>False) i (λa' w'=>(G.elem i=true->C w')∧jW P ops S F G C Q is a' w') a w)∨
    (S.elem i=false∧(F.elem i=true->C w)∧∃v,EN (λx=>if F.elem i then C x else x=w) P ops o v a∧jW P ops S F G C Q is (a.put o.dst v) w))
def BS(ops:Array Oper)(S F G:List Nat)(i j:Nat):Bool:=
 !zC ops ops.size i j&&(zC ops ops.size j i|| (!S.elem i&&(!S.elem j|| (F.elem i&&G.elem j))&&
  match ops[i]?,ops[j]? with
  |some oi,some oj=>oi.apart ops oj&&oj.apart ops oi
  |_,_=>false))
def jA(ops:Array Oper)(S F G:List Nat):List Nat->Bool
 | []=>true
 |i::is=>is.all (BS ops S F G i)&&jA ops S F G is
def YF(ops:Array Oper)(S F G L:List Nat):Bool:=Region.noSelect ops&&jA ops S F G L&&(List.range ops.size).all (λi=>L.elem i)&&L.all (λi=>decide (i<ops.size))&&
 decide L.Nodup&&(List.range ops.size).all λk=>match ops[k]? with
  |none=>true
  |some o=>o.after.all λe=> !Region.binds .any e||decide (e.on<k)
theorem Ar{S F G:List Nat}:∀ {pre post:List Nat} {i:Nat},jA ops S F G (pre++i::post)=true->(∀j∈pre,BS ops S F G j i=true)∧jA ops S F G (pre++post)=true
 | [],post,i,h=>by
  simp only[List.nil_append,jA,Bool.and_eq_true]at h;exact⟨by simp,h.2⟩
 |j::pre,post,i,h=>by
  simp only[List.cons_append,jA,Bool.and_eq_true,List.all_eq_true,List.mem_append,List.mem_cons]at h|-;obtain⟨h1,h2⟩:=Ar h.2;refine⟨λk hk=>?_,λk hk=>h.1 k ?_,h2⟩
  ·rcases hk with rfl|hk
   ·exact h.1 i (.inr (.inl rfl))
   ·exact h1 k hk
  ·rcases hk with hk|hk
   ·exact .inl hk
   ·exact .inr (.inr hk)
theorem Mh{R:World->Prop}{j:Nat}{oi oj:Oper}{v:Value}(hj:ops[j]? =some oj)(hap:oi.apart ops oj=true)(hsi:∀cs b,oi.op≠ .select cs b)(hsj:∀cs b,oj.op≠ .select cs b)
  {K:Act->World->Prop} {a:Act} {w:World} (hy:EN R P ops oi v a) (h:wpOp P ops (λ_ _ _=>False) j K (a.put oi.dst v) w):
  wpOp P ops (λ_ _ _=>False) j (λa' w'=>EN R P ops oi v a'∧K (a'.put oi.dst v) w') a w:=by
 obtain⟨h1,h2,h3⟩:=Oper.apart_spec hap;have keep:∀u,EN R P ops oi v (a.put oj.dst u):=λu=>hy.same (execOp_put oi hsi a oj.dst u h3) (wanted_put oi a oj.dst u h3)
 have swap:∀u w',K ((a.put oi.dst v).put oj.dst u) w'->EN R P ops oi v (a.put oj.dst u)∧K ((a.put oj.dst u).put oi.dst v) w':=λu w' hk=>⟨keep u,by rw[<-Act.put_comm a v u h2];exact hk⟩
 unfold wpOp at h|-;rw[hj]at h|-;simp only at h|-;rw[wanted_put oj a oi.dst v h1]at h;by_cases hw:Region.wanted oj (yielded ops a.tmps)=true
 ·rw[if_pos hw]at h|-
  rcases h with h| ⟨ha,hl⟩
  ·left
   unfold Oper.wp at h|-;rw[execOp_put oj hsj a oi.dst v h1]at h;generalize(execOp a.eval oj).run P w=r at h|-;cases r with
   |ok n w'=>
    cases n<;>simp only[Oper.upon]at h|-
    case value u=>exact swap u w' h
    case skip=>exact swap _ w' h
    case defer d=>
     have hy':EN R P ops oi v {a with defers:=d::a.defers}:=hy.same rfl rfl;refine⟨hy'.same (execOp_put oi hsi _ oj.dst undef h3) (wanted_put oi _ oj.dst undef h3),?_⟩;rw[<-Act.put_comm _ v undef h2,<-Act.put_defers];exact h
    case enter f args=>
     refine h.mono λe w'' he=>?_
     cases e with
     |returned u=>exact swap u w'' he
     |panicked c=>exact he
     |outgrown=>exact he
    case row r args=>exact h.mono λu w'' he=>swap u w'' he
   |halt x w'=>
    cases x<;>simp only[Oper.upon]at h|-
  ·right
   refine⟨?_,hl⟩;unfold Oper.asks at ha|-;rw[execOp_put oj hsj a oi.dst v h1]at ha;exact ha
 ·rw[if_neg hw]at h|-
  exact swap _ w h
section
variable {S F G:List Nat}{C:World->Prop}{Q:Exit->Act->World->Prop}(hsel:∀(j:Nat) (o:Oper) cs b,ops[j]? =some o->o.op≠ .select cs b)
include hsel
theorem TG{i:Nat}{post:List Nat}:∀(pre:List Nat) (a:Act) (w:World),(∀j∈pre,zC ops ops.size i j=false)->(∀j∈pre,BS ops S F G j i=true)->jW P ops S F G C Q (pre++i::post) a w->
  ∃o,ops[i]? =some o∧((S.elem i=true∧wpOp P ops (λ_ _ _=>False) i (λa' w'=>(G.elem i=true->C w')∧jW P ops S F G C Q (pre++post) a' w') a w)∨
    (S.elem i=false∧(F.elem i=true->C w)∧∃v,EN (λx=>if F.elem i then C x else x=w) P ops o v a∧jW P ops S F G C Q (pre++post) (a.put o.dst v) w)):=by
 intro pre
 induction pre with
 |nil=>intro a w _ _ h;exact h
 |cons j pre ih=>
  intro a w hna hpo h;obtain⟨oj,hoj,hj⟩:=h;have hp:=hpo j SI;simp only[BS,hna j SI,Bool.false_or,Bool.and_eq_true,Bool.not_eq_true']at hp;obtain⟨_,⟨hjS,hiF⟩,hap⟩:=hp;rcases hj with⟨hS,_⟩ | ⟨_,hjC,vj,hyj,hj⟩
  ·rw[hjS]at hS;cases hS
  obtain⟨oi,hoi,hi⟩:=ih (a.put oj.dst vj) w (λk hk=>hna k (by simp[hk])) (λk hk=>hpo k (by simp[hk])) hj;rw[hoj,hoi]at hap;simp only[Bool.and_eq_true]at hap;refine⟨oi,hoi,?_⟩;rcases hi with⟨QI,hi⟩ | ⟨QI,hiC,vi,hyi,hi⟩
  ·refine .inl ⟨QI,?_⟩
   obtain⟨hFj,hGi⟩:F.elem j=true∧G.elem i=true:=by
    simp only[QI,Bool.not_true,Bool.false_or,Bool.and_eq_true]at hiF;exact hiF
   refine wpOp_mono (λa' w' hh=>?_) (Mh hoi hap.1 (λcs b=>hsel j oj cs b hoj) (λcs b=>hsel i oi cs b hoi) hyj hi);refine⟨hh.2.1,oj,hoj,.inr ⟨hjS,λ_=>hh.2.1 hGi,vj,?_,hh.2.2⟩⟩;have:=hh.1;simp only[hFj,if_true]at this|-;exact this
  ·refine .inr ⟨QI,hiC,vi,?_,oj,hoj,.inr ⟨hjS,hjC,vj,?_,?_⟩⟩
   ·obtain⟨h1,h2,h3⟩:=Oper.apart_spec hap.1
    exact hyi.same (execOp_put oi (λcs b=>hsel i oi cs b hoi) a oj.dst vj h1).symm (wanted_put oi a oj.dst vj h1).symm
   ·obtain⟨h1,h2,h3⟩:=Oper.apart_spec hap.2
    exact hyj.same (execOp_put oj (λcs b=>hsel j oj cs b hoj) a oi.dst vi h1) (wanted_put oj a oi.dst vi h1)
   ·obtain⟨h1,h2,h3⟩:=Oper.apart_spec hap.1
    rw[<-Act.put_comm a vj vi h2];exact hi
theorem BU(TH:∀i o,ops[i]? =some o->∀e∈o.after,Region.binds .any e=true->e.on<i):∀(fuel:Nat) (listed:Array Bool) (is:List Nat) (a:Act) (w:World),is.length=fuel->Closed ops listed->is.Nodup->(∀i,i∈is↔(i<ops.size∧listed.getD i false=false))->jA ops S F G is=true->jW P ops S F G C Q is a w->
  wpAny P .any ops Q fuel listed a w:=by
 intro fuel
 induction fuel with
 |zero=>
  intro listed is a w hl hc _ hm _ h;obtain rfl:=List.eq_nil_of_length_eq_zero hl;refine⟨?_,h⟩;refine List.eq_nil_iff_forall_not_mem.2 λi hi=>?_
  obtain⟨h0,o,ho,_⟩:=mem_ready.1 hi;have hlt:=(Array.getElem?_eq_some_iff.1 ho).1;have:=(hm i).2 ⟨hlt,by rw[<-jh (by rw[hc.1];exact hlt)];exact h0⟩;simp at this
 |succ fuel ih=>
  intro listed is a w hl hc hnd hm hp h;refine⟨λh0=>?_,λi hi=>?_⟩
  ·
   obtain⟨i,is',rfl⟩:∃i is',is=i::is':=by
    cases is with
    |nil=>simp at hl
    |cons i is'=>exact⟨i,is',rfl⟩
   exfalso;have hi0:=(hm i).1 SI;have hin:i∈Region.ready .any ops listed:=by
    rw[mem_ready];refine⟨by rw[jh (by rw[hc.1];exact hi0.1)];exact hi0.2,ops[i]'hi0.1,by simp[hi0.1],λe he hb=>?_⟩;cases hle:listed.getD e.on false
    ·exfalso
     have YB:zC ops ops.size i e.on=true:=by
      have hpos:0<ops.size:=by omega
      obtain⟨n,hn⟩:∃n,ops.size=n+1:=⟨ops.size-1,by omega⟩;rw[hn];simp only[zC,Array.getElem?_eq_getElem hi0.1];refine List.any_eq_true.2 ⟨e,by simpa using he,?_⟩;simp[hb]
     have hlt:=TH i ops[i] (Array.getElem?_eq_getElem hi0.1) e (by simpa using he) hb;have hmem:=(hm e.on).2 ⟨by omega,hle⟩;rcases List.mem_cons.1 hmem with heq|hmem
     ·omega
     ·simp only[jA,Bool.and_eq_true,List.all_eq_true]at hp
      have:=hp.1 e.on hmem;simp[BS,YB]at this
    ·rfl
   rw[h0]at hin;cases hin
  ·obtain⟨h0,oi,hoi,hall⟩:=mem_ready.1 hi
   have hlt:=(Array.getElem?_eq_some_iff.1 hoi).1;have hmi:=(hm i).2 ⟨hlt,by rw[<-jh (by rw[hc.1];exact hlt)];exact h0⟩;obtain⟨pre,post,rfl⟩:=List.append_of_mem hmi;have hna:∀j∈pre,zC ops ops.size i j=false:=λj hj=>by
    cases hb:zC ops ops.size i j
    ·rfl
    ·have h1:=nP hc ops.size i j hb ⟨oi,hoi,hall⟩
     have h2:=((hm j).1 (by simp[hj])).2;rw[h1]at h2;cases h2
   obtain⟨hpm,TI⟩:=Ar hp;obtain⟨o,ho,hs⟩:=TG hsel pre a w hna hpm h;obtain rfl:o=oi:=Option.some.inj (ho.symm.trans hoi);have hcl:Closed ops (listed.setIfInBounds i true):=⟨by simp[hc.1],λj oj hj hlj e he hb=>by
    by_cases hij:i=j
    ·subst hij
     obtain rfl:oj=o:=Option.some.inj (hj.symm.trans hoi);exact getD_set_true (hall e he hb)
    ·rw[getD_set_ne false hij]at hlj
     exact getD_set_true (hc.2 j oj hj hlj e he hb)⟩
   have hnd':(pre++post).Nodup:=hnd.sublist (List.Sublist.append (List.Sublist.refl _) (List.sublist_cons_self _ _));have hni:i∉pre++post:=by
    intro hx;rw[List.nodup_append]at hnd;rcases List.mem_append.1 hx with hx|hx
    ·exact hnd.2.2 i hx i SI rfl
    ·exact(List.nodup_cons.1 hnd.2.1).1 hx
   have hm':∀k,k∈pre++post↔(k<ops.size∧(listed.setIfInBounds i true).getD k false=false):=λk=>by
    by_cases hik:i=k
    ·subst hik
     constructor
     ·intro hx;exact absurd hx hni
     ·rintro⟨_,hx⟩
      rw[show(listed.setIfInBounds i true).getD i false=true by simp[hc.1,hlt]]at hx;cases hx
    ·rw[getD_set_ne false hik,<-hm k]
     simp only[List.mem_append,List.mem_cons]
     constructor
     ·rintro(hx|hx)
      ·exact .inl hx
      ·exact .inr (.inr hx)
     ·rintro(hx|rfl|hx)
      ·exact .inl hx
      ·exact absurd rfl hik
      ·exact .inr hx
   have hl':(pre++post).length=fuel:=by simp at hl|-;omega
   have next:∀a' w',jW P ops S F G C Q (pre++post) a' w'->wpAny P .any ops Q fuel (listed.setIfInBounds i true) a' w':=λa' w' hh=>ih _ _ a' w' hl' hcl hnd' hm' TI hh
   rcases hs with⟨_,hs⟩ | ⟨_,hiC,v,hy,hs⟩
   ·refine wpOp_mono (K:=λa' w'=>(G.elem i=true->C w')∧jW P ops S F G C Q (pre++post) a' w') (λa' w' hh=>next a' w' hh.2) ?_
    unfold wpOp at hs|-;rw[hoi]at hs|-;simp only at hs|-;by_cases hw:Region.wanted o (yielded ops a.tmps)=true
    ·rw[if_pos hw]at hs|-
     rcases hs with hs| ⟨_,_,_,hs⟩
     ·refine .inl ?_
      unfold Oper.wp at hs|-;generalize(execOp a.eval o).run P w=r at hs|-;cases r with
      |ok n w'=>
       cases n<;>simp only[Oper.upon]at hs|-
       case enter f args=>
        refine hs.mono λe w'' he=>?_
        cases e with
        |returned u=>exact he
        |panicked c=>exact he.elim
        |outgrown=>obtain⟨_,_,he⟩:=he;exact he.elim
       all_goals exact hs
      |halt x w'=>cases x<;>simp only[Oper.upon]at hs|-
     ·exact hs.elim
    ·rw[if_neg hw]at hs|-
     exact hs
   ·unfold wpOp
    rw[hoi];simp only;rcases hy with⟨hw,hy⟩ | ⟨hw,rfl⟩
    ·rw[if_pos hw]
     refine .inl ?_;unfold Oper.wp;rw[hy w (by split<;>first| (rename_i hf;exact hiC hf) |rfl)];exact next _ _ hs
    ·rw[if_neg (by rw[hw];simp)]
     exact next _ _ hs
end
theorem G5{id:Nat}{l:List Oper}{Q:Exit->Act->World->Prop}{a:Act}{w:World}(S F G L:List Nat)(C:World->Prop)(hm:P.follows .mixedOrders=true)(hB:YF l.toArray S F G L=true)
  (h:jW P l.toArray S F G C Q L a w.drew):(Code.region id l.toArray true).wp P Q a w:=by
 simp only[YF,Bool.and_eq_true,List.all_eq_true,decide_eq_true_eq]at hB;obtain⟨⟨⟨⟨⟨h1,h2⟩,h3⟩,h4⟩,h5⟩,h6⟩:=hB;refine wp_region_any hm ?_;refine BU (Region.noSelect_spec h1) (λi o ho e he hb=>?_) _ _ L a _ ?_ ?_ h5 ?_ h2 h
 ·have hi:i<l.toArray.size:=(Array.getElem?_eq_some_iff.1 ho).1
  have h7:=h6 i (by simpa using hi);rw[ho]at h7;simp only[Array.all_eq_true_iff_forall_mem]at h7;have:=h7 e he;simpa[hb]using this
 ·have hp:L.Perm (List.range l.toArray.size):=(List.perm_ext_iff_of_nodup h5 List.nodup_range).2 λi=>⟨λhi=>by simpa using h4 i hi,λhi=>by simpa using h3 i hi⟩
  rw[hp.length_eq];simp
 ·refine⟨by simp,λj oj _ hj=>?_⟩
  exfalso;simp only[Array.getD_eq_getD_getElem?,Array.getElem?_replicate]at hj
  split at hj<;>simp at hj
 ·intro i
  constructor
  ·intro hi
   have:=h4 i hi;refine⟨this,?_⟩;simp at this;simp[this]
  ·rintro⟨hi,_⟩
   simpa using h3 i (by simpa using hi)
def G6:Op->Bool
 | .build .. | .load .. | .binOp .. | .unOp .. | .convert .. | .sliceToArrayPointer .. | .makeInterface .. | .makeFunc .. | .slice .. | .fieldAddr ..
 | .field .. | .indexAddr .. | .index .. | .lookup .. | .typeAssert .. | .extract .. | .move .. | .assign .. | .pick .. | .nilCheck .. =>true
 | .call c=>(match c.callee with| .builtin .len | .builtin .cap | .builtin .min | .builtin .max=>true|_=>false)
 |_=>false
theorem QJ{α:Type}{s:Sem α}{v:Value}{w w':World}{n:Next}(h:(do let _<-s;pure (Next.value v):Sem Next).run P w=.ok n w'):∃v,n=.value v:=by
 rw[Sem.run_bind]at h;cases hs:s.run P w with
 |ok u w1=>rw[hs,Result.andThen_ok,Sem.run_pure]at h;cases h;exact⟨_,rfl⟩
 |halt x w1=>rw[hs]at h;cases h
theorem QK{o:Oper}{ρ:Operand->Value}{w w':World}{n:Next}(hp:G6 o.op=true)(h:(execOp ρ o).run P w=.ok n w'):∃v,n=.value v:=by
 obtain⟨dst,op,ty,pos,af,g⟩:=o;cases op<;>simp only[G6,Bool.false_eq_true]at hp<;>simp only[execOp]at h
 case move=>rw[Sem.run_pure]at h;cases h;exact⟨_,rfl⟩
 case assign=>rw[Sem.run_pure]at h;cases h;exact⟨_,rfl⟩
 case pick=>
  rw[Sem.run_bind]at h
  rename_i c x y
  cases hb:(asBool (ρ c)).run P w with
  |ok v w1=>rw[hb,Result.andThen_ok,Sem.run_pure]at h;cases h;exact⟨_,rfl⟩
  |halt x w1=>rw[hb]at h;cases h
 case nilCheck=>
  split at h
  iterate 3 (simp[runtimePanic,Sem.run]at h)
  ·split at h
   ·simp[runtimePanic,Sem.run]at h
   ·rw[Sem.run_bind]at h
    cases hb:(program:Sem Program).run P w with
    |ok p w1=>
     rw[hb,Result.andThen_ok,Sem.run_bind]at h
     rename_i t wv _
     cases hc:(nilAhead (p.types.size+Made.depth) t wv _).run P w1 with
     |ok u w2=>
      rw[hc,Result.andThen_ok]at h
      split at h
      ·exact QJ h
      ·rw[Sem.run_pure]at h;cases h;exact⟨_,rfl⟩
     |halt x w2=>rw[hc]at h;cases h
    |halt x w1=>rw[hb]at h;cases h
   ·rw[Sem.run_pure]at h;cases h;exact⟨_,rfl⟩
  ·rw[Sem.run_pure]at h;cases h;exact⟨_,rfl⟩
 case call c=>
  obtain⟨callee,args,ats⟩:=c;cases callee with
  |builtin b=>
   simp only[resolve,Sem.run_bind,Sem.run_pure,Result.andThen_ok,invoke]at h;cases b<;>simp only[Bool.false_eq_true]at hp<;>exact GY h
  |invoke=>simp at hp
  |value=>simp at hp
 all_goals exact GY h
theorem Au{o:Oper}{K:Act->World->Prop}{Q:Exit->Act->World->Prop}{a:Act}{w:World}(h:Oper.wp P {o with guard:=none} a w K Q):Oper.wp P o a w K Q:=by
 unfold Oper.wp at h|-;have e:execOp a.eval o=execOp a.eval {o with guard:=none}:=rfl;rw[e];generalize(execOp a.eval {o with guard:=none}).run P w=r at h|-;cases r with
 |ok n w'=>cases n<;>exact h
 |halt x w'=>cases x<;>exact h
section
variable {l:List Oper}{S F G is:List Nat}{C:World->Prop}{Q:Exit->Act->World->Prop}{i:Nat}{a:Act}{w:World}{dst:Option Tmp}{op:Op}{ty:TypeId}{pos:String}{af:Array Edge}{g:Option (Nat×Bool)}
def sqK(P:Program)(ops:Array Oper)(S F G:List Nat)(C:World->Prop)(Q:Exit->Act->World->Prop)(is:List Nat)(b:Bool):Exit->Act->World->Prop:=λe a w=>e=.normal∧(b=true->C w)∧jW P ops S F G C Q is a w
theorem ji(h:jW P ops S F G C Q is a w):sqK P ops S F G C Q is false .normal a w:=⟨rfl,(λh=>nomatch h),h⟩
theorem jN(hC:C w)(h:jW P ops S F G C Q is a w):sqK P ops S F G C Q is true .normal a w:=⟨rfl,λ_=>hC,h⟩
def sqR(P:Program)(ops:Array Oper)(S F G:List Nat)(C:World->Prop)(Q:Exit->Act->World->Prop)(is:List Nat)(w:World):Exit->Act->World->Prop:=λe a w'=>e=.normal∧w'=w∧jW P ops S F G C Q is a w
theorem h_(h:jW P ops S F G C Q is a w):sqR P ops S F G C Q is w .normal a w:=⟨rfl,rfl,h⟩
theorem YG(ho:l[i]? =some ⟨dst,op,ty,pos,af,g⟩)(hw:Region.wanted ⟨dst,op,ty,pos,af,g⟩ (yielded l.toArray a.tmps)=false)(hS:S.elem i=false)(hF:F.elem i=false)(h:jW P l.toArray S F G C Q is (a.put dst undef) w):
  jW P l.toArray S F G C Q (i::is) a w:=
 ⟨_,by simpa using ho,.inr ⟨hS,λh=>(by rw[hF]at h;cases h),undef,.inr ⟨hw,rfl⟩,h⟩⟩
theorem Jf(ho:l[i]? =some ⟨dst,op,ty,pos,af,g⟩)(hw:Region.wanted ⟨dst,op,ty,pos,af,g⟩ (yielded l.toArray a.tmps)=false)(hC:C w)(h:jW P l.toArray S F G C Q is (a.put dst undef) w):
  jW P l.toArray S F G C Q (i::is) a w:=by
 refine⟨_,by simpa using ho,?_⟩;cases hS:S.elem i
 ·exact .inr ⟨rfl,λ_=>hC,undef,.inr ⟨hw,rfl⟩,h⟩
 ·refine .inl ⟨rfl,?_⟩
  unfold wpOp;rw[show l.toArray[i]? =some _ by simpa using ho];simp only;rw[if_neg (by rw[hw];simp)];exact⟨λ_=>hC,h⟩
theorem TJ{b:Bool}(ho:l[i]? =some ⟨dst,op,ty,pos,af,g⟩)(hS:S.elem i=true)(hG:G.elem i=b)(hw:Region.wanted ⟨dst,op,ty,pos,af,g⟩ (yielded l.toArray a.tmps)=true)
  (h:wpList P l.toArray (sqK P l.toArray S F G C Q is b) [⟨dst,op,ty,pos,af,none⟩] a w):jW P l.toArray S F G C Q (i::is) a w:=by
 refine⟨_,by simpa using ho,.inl ⟨hS,?_⟩⟩;unfold wpOp;rw[show l.toArray[i]? =some _ by simpa using ho];simp only;rw[if_pos hw];refine .inl ?_;have h1:(⟨dst,op,ty,pos,af,none⟩:Oper).wp P a w (λa' w'=>(b=true->C w')∧jW P l.toArray S F G C Q is a' w') (λ_ _ _=>False):=ow (by simp[Region.wanted]) h;rw[hG];exact Au h1
theorem YH(ho:l[i]? =some ⟨dst,op,ty,pos,af,g⟩)(hS:S.elem i=false)(hF:F.elem i=false)(hw:Region.wanted ⟨dst,op,ty,pos,af,g⟩ (yielded l.toArray a.tmps)=true)(hp:G6 op=true)
  (h:wpList P l.toArray (sqR P l.toArray S F G C Q is w) [⟨dst,op,ty,pos,af,none⟩] a w):jW P l.toArray S F G C Q (i::is) a w:=by
 unfold wpList at h;rw[if_pos (by simp[Region.wanted])]at h;rcases h with h| ⟨_,_,_,h⟩
 ·unfold Oper.wp at h
  cases hr:(execOp a.eval ⟨dst,op,ty,pos,af,none⟩).run P w with
  |ok n w'=>
   obtain⟨v,rfl⟩:=QK hp hr;rw[hr]at h;obtain⟨_,rfl,hn⟩:sqR P l.toArray S F G C Q is w .normal (a.put dst v) w':=h;exact⟨_,by simpa using ho,.inr ⟨hS,λh=>(by rw[hF]at h;cases h),v,.inl ⟨hw,λx hx=>by simp only[hF,Bool.false_eq_true,if_false]at hx;subst hx;exact hr⟩,hn⟩⟩
  |halt x w'=>
   rw[hr]at h;cases x<;>simp only[Oper.upon]at h
   cases h.1
 ·cases h.1
theorem jB{v:Value}(ho:l[i]? =some ⟨dst,op,ty,pos,af,g⟩)(hS:S.elem i=false)(hF:F.elem i=true)(hw:Region.wanted ⟨dst,op,ty,pos,af,g⟩ (yielded l.toArray a.tmps)=true)(hC:C w)
  (hv:∀w,C w->fP P ⟨dst,op,ty,pos,af,none⟩ a w v) (h:jW P l.toArray S F G C Q is (a.put dst v) w):jW P l.toArray S F G C Q (i::is) a w:=
 ⟨_,by simpa using ho,.inr ⟨hS,λ_=>hC,v,.inl ⟨hw,λw' hw'=>by simp only[hF,if_true]at hw';exact hv w' hw'⟩,h⟩⟩
theorem fC(h:Q .normal a w):jW P l.toArray S F G C Q [] a w:=h
end
end
section
variable {T:List Nat}{w0 w w':World}{m m':List aG}{r r' x:aG}
theorem Inv.on(h:Inv T w0 w m)(hJ:Inv r.own w w' [r'])(hu:aR r r' m m'):Inv T w0 w' m':=by
 refine h.upd hu hJ.end_ (hJ.sat _ SI) (λk hk=>?_) ?_
 ·have:=hJ.mine k (by simpa[owned]using hk)
  rcases this.1 with h1|h1
  ·exact .inr ⟨h1,this.2⟩
  ·exact .inl h1
 ·have:=hJ.apart
  simpa[owned]using this
theorem Inv.part(h:Inv T w0 w m)(hu:aR r r' m m')(hr:r'.sat w)(hx:x.sat w)(hp:(x.own++r'.own).Perm r.own):Inv T w0 w (x::m'):=by
 obtain⟨m1,m2,rfl,rfl⟩:=hu.split;have hperm:(owned (x::(m1++r'::m2))).Perm (owned (m1++r::m2)):=by
  simp only[fA,bY];refine List.Perm.trans ?_ (List.Perm.append_left (owned m1) (List.Perm.append_right (owned m2) hp));rw[<-List.append_assoc x.own];refine(List.Perm.append_right _ List.perm_append_comm).trans ?_;rw[List.append_assoc,List.append_assoc]
 refine⟨h.os,h.tape,h.output,h.size,h.old,λy hy=>?_,λk hk=>h.mine k (hperm.subset hk),hperm.nodup_iff.2 h.apart⟩;simp only[List.mem_cons,List.mem_append]at hy;rcases hy with rfl|hy|rfl|hy
 ·exact hx
 ·exact h.sat _ (by simp[hy])
 ·exact hr
 ·exact h.sat _ (by simp[hy])
theorem aR.mid(r r':aG)(m2:List aG):∀m1:List aG,aR r r' (m1++r::m2) (m1++r'::m2)
 | []=>aR.here
 |_::m1=>aR.there (aR.mid r r' m2 m1)
def two(x r':aG):aG:=⟨x.own++r'.own,λw=>x.sat w∧r'.sat w,λw w' h hs=>⟨x.loc w w' (λk hk=>h k (List.mem_append.2 (.inl hk))) hs.1,r'.loc w w' (λk hk=>h k (List.mem_append.2 (.inr hk))) hs.2⟩⟩
theorem Inv.Ml(h:Inv T w0 w m)(hJ:Inv r.own w w' [x,r'])(hu:aR r r' m m'):Inv T w0 w' (x::m'):=by
 obtain⟨m1,m2,rfl,rfl⟩:=hu.split;have hJ2:Inv r.own w w' [two x r']:=⟨hJ.os,hJ.tape,hJ.output,hJ.size,hJ.old,λy hy=>by
  obtain rfl:=List.mem_singleton.1 hy;exact⟨hJ.sat _ SI,hJ.sat _ SI⟩,λk hk=>hJ.mine k (by simpa[owned,two]using hk),by simpa[owned,two]using hJ.apart⟩
 have h2:=h.on hJ2 (aR.mid r (two x r') m2 m1);have hs:=h2.sat (two x r') SI;exact h2.part (aR.mid (two x r') r' m2 m1) hs.2 hs.1 (List.Perm.refl _)
end
theorem Inv.nd{T:List Nat}{w0 w:World}{m:List aG}{r:aG}(h:Inv T w0 w m)(hm:r∈m):r.own.Nodup:=by
 obtain⟨m1,m2,rfl⟩:=List.append_of_mem hm;have:=h.apart;rw[fA,bY,List.nodup_append,List.nodup_append]at this;exact this.2.1.1
section
variable {T:List Nat}{w0 w w':World}{m m':List aG}{r r' x:aG}
theorem Inv.at_(h:Inv T w0 w m)(hm:r∈m):Inv r.own w w [r]:=by
 refine⟨rfl,rfl,rfl,Nat.le_refl _,λ_ _ _=>rfl,λy hy=>?_,λk hk=>?_,?_⟩
 ·obtain rfl:=List.mem_singleton.1 hy;exact h.sat _ hm
 ·have hk2:k∈r.own:=by simpa[owned]using hk
  exact⟨.inr hk2,(h.mine k (dE.2 ⟨r,hm,hk2⟩)).2⟩
 ·simpa[owned]using h.nd hm
theorem Inv.turn(h:Inv T w0 w m)(hs:(∀y∈m,y.sat w)->∀y∈m',y.sat w)(hp:(owned m').Perm (owned m)):Inv T w0 w m':=
 ⟨h.os,h.tape,h.output,h.size,h.old,hs h.sat,λk hk=>h.mine k (hp.subset hk),hp.nodup_iff.2 h.apart⟩
theorem Inv.dz(h:Inv T w0 w (two x r::m)):Inv T w0 w (x::r::m):=
 h.turn (λhs y hy=>by
  simp only[List.mem_cons]at hy;rcases hy with rfl|rfl|hy
  ·exact(hs (two y r) SI).1
  ·exact(hs (two x y) SI).2
  ·exact hs _ (by simp[hy])) (by simp[owned,two])
theorem Inv.dO(h:Inv T w0 w (x::r::m)):Inv T w0 w (two x r::m):=
 h.turn (λhs y hy=>by
  simp only[List.mem_cons]at hy;rcases hy with rfl|hy
  ·exact⟨hs _ SI,hs _ SI⟩
  ·exact hs _ (by simp[hy])) (by simp[owned,two])
def fQ(I:List Nat)(f:Nat->aG):aG:=
 ⟨owned (I.map f),λw=>∀i∈I,(f i).sat w,λw w' h hs i hi=>(f i).loc w w' (λk hk=>h k (dE.2 ⟨f i,List.mem_map.2 ⟨i,hi,rfl⟩,hk⟩)) (hs i hi)⟩
theorem BV{I J:List Nat}(f:Nat->aG)(h:I.Perm J):(fQ I f).own.Perm (fQ J f).own:=by
 show(owned (I.map f)).Perm (owned (J.map f));exact(h.map f).flatMap_right _
theorem Inv.pull(h:Inv T w0 w m){I:List Nat}{f:Nat->aG}{i:Nat}(hi:i∈I)(hu:aR (fQ I f) (fQ (I.erase i) f) m m'):Inv T w0 w (f i::m'):=by
 have hs:(fQ I f).sat w:=h.sat (fQ I f) (by obtain⟨m1,m2,rfl,rfl⟩:=hu.split;simp);refine h.part hu (λj hj=>hs j (List.mem_of_mem_erase hj)) (hs i hi) ?_;exact(BV f (List.perm_cons_erase hi)).symm
theorem Inv.push(h:Inv T w0 w (r::m)){I:List Nat}{f g:Nat->aG}{i:Nat}(hn:I.Nodup)(hi:i∈I)(hr:r=g i)(hg:∀j∈I,j≠i->g j=f j)(hu:aR (fQ (I.erase i) f) (fQ I g) m m'):Inv T w0 w m':=by
 subst hr;obtain⟨m1,m2,rfl,rfl⟩:=hu.split;have he:(fQ (I.erase i) f)=fQ (I.erase i) g:=by
  have e:∀j∈I.erase i,f j=g j:=λj hj=>by
   have:=hn.mem_erase_iff.1 hj;exact(hg j this.2 this.1).symm
  unfold fQ;congr 1
  ·rw[List.map_congr_left e]
  ·funext w
   refine propext ⟨λhh j hj=>?_,λhh j hj=>?_⟩
   ·rw[<-e j hj];exact hh j hj
   ·rw[e j hj];exact hh j hj
 rw[he]at h;refine h.turn (λhs y hy=>?_) ?_
 ·simp only[List.mem_append,List.mem_cons]at hy
  rcases hy with hy|rfl|hy
  ·exact hs _ (by simp[hy])
  ·intro j hj
   by_cases hji:j=i
   ·rw[hji];exact hs (g i) SI
   ·exact hs (fQ (I.erase i) g) SI j (hn.mem_erase_iff.2 ⟨hji,hj⟩)
  ·exact hs _ (by simp[hy])
 ·have hp:((g i).own++(fQ (I.erase i) g).own).Perm (fQ I g).own:=(BV g (List.perm_cons_erase hi)).symm
  simp only[fA,bY];refine List.Perm.trans ?_ (show((g i).own++owned m1++((fQ (I.erase i) g).own++owned m2)).Perm _ by rw[List.append_assoc]);refine List.Perm.trans ?_ (List.Perm.append_right _ List.perm_append_comm);rw[List.append_assoc,<-List.append_assoc (g i).own];exact List.Perm.append_left _ (List.Perm.append_right _ hp.symm)
theorem Inv.more(h:Inv T w0 w (r::m)){I:List Nat}{f g:Nat->aG}{i:Nat}(hi:i∉I)(hr:r=g i)(hg:∀j∈I,g j=f j)(hu:aR (fQ I f) (fQ (I++[i]) g) m m'):Inv T w0 w m':=by
 subst hr;obtain⟨m1,m2,rfl,rfl⟩:=hu.split;have hn:∀j∈I,j≠i:=λj hj e=>hi (e▸hj)
 refine h.turn (λhs y hy=>?_) ?_
 ·simp only[List.mem_append,List.mem_cons]at hy
  rcases hy with hy|rfl|hy
  ·exact hs _ (by simp[hy])
  ·intro j hj
   simp only[List.mem_append,List.mem_singleton]at hj;rcases hj with hj|rfl
   ·rw[hg j hj];exact hs (fQ I f) SI j hj
   ·exact hs (g j) SI
  ·exact hs _ (by simp[hy])
 ·have e:(fQ (I++[i]) g).own=(fQ I f).own++(g i).own:=by
   show owned ((I++[i]).map g)=owned (I.map f)++_;rw[List.map_append,fA,List.map_congr_left hg];simp[owned]
  simp only[fA,bY,e];refine List.Perm.trans ?_ (show((g i).own++owned m1++((fQ I f).own++owned m2)).Perm _ by rw[List.append_assoc]);refine List.Perm.trans ?_ (List.Perm.append_right _ List.perm_append_comm);rw[List.append_assoc,List.append_assoc];refine List.Perm.append_left _ ?_;rw[<-List.append_assoc (g i).own,<-List.append_assoc (fQ I f).own];exact List.Perm.append_right _ List.perm_append_comm
theorem Inv.acF(h:Inv T w0 w m)(f:Nat->aG):Inv T w0 w (fQ [] f::m):=
 h.turn (λhs y hy=>by
  rcases List.mem_cons.1 hy with rfl|hy
  ·intro j hj;simp at hj
  ·exact hs _ hy) (by simp[owned,fQ])
end
def gL{α:Type}(f:Nat->α)(i:Nat)(v:α):Nat->α:=λj=>if j=i then v else f j
theorem bJ{α:Type}(f:Nat->α)(i:Nat)(v:α):gL f i v i=v:=if_pos rfl
theorem bZ{α:Type}(f:Nat->α){i j:Nat}(v:α)(h:j≠i):gL f i v j=f j:=if_neg h
theorem Inv.jr{T:List Nat}{w0 w:World}{x y:aG}{m:List aG}(h:Inv T w0 w (x::y::m)):Inv T w0 w (y::x::m):=
 h.turn (λhs z hz=>hs z (by simp only[List.mem_cons]at hz|-;rcases hz with h|h|h<;>simp[h])) (by
  simp only[bY,<-List.append_assoc];exact List.Perm.append_right _ List.perm_append_comm)
theorem Inv.toEnd{T:List Nat}{w0 w:World}{x:aG}{m:List aG}(h:Inv T w0 w (x::m)):Inv T w0 w (m++[x]):=
 h.turn (λhs z hz=>hs z (by simp only[List.mem_append,List.mem_cons,List.not_mem_nil,or_false]at hz|-;exact hz.symm)) (by
  simp only[bY,fA];refine List.Perm.trans ?_ List.perm_append_comm;simp[owned])
def av:List Int->List (Nat×List Int)->List Int
 |zs,[]=>zs
 |zs,(o,vs)::l=>av (dF zs o vs) l
theorem jC{pre x post y:List Int}{o:Nat}(ho:o=pre.length)(hl:y.length=x.length):dF (pre++(x++post)) o y=pre++(y++post):=by
 subst ho;simp only[dF,List.take_left',List.append_assoc];rw[<-List.append_assoc pre x post,List.drop_append_of_le_length (by simp;omega),show List.drop (pre.length+y.length) (pre++x)=[]from List.drop_eq_nil_of_le (by simp;omega)];rfl
theorem pK{pre x post:List Int}{o n:Nat}(ho:o=pre.length)(hn:n=x.length):sub (pre++(x++post)) o n=x:=by
 subst ho hn;simp[sub]
theorem xz{pre post:List Int}{x:Int}{o:Nat}(ho:o=pre.length):gi (pre++(x::post)) o=x:=by
 subst ho;simp[gi]
theorem set_mid{pre post:List Int}{x y:Int}{o:Nat}(ho:o=pre.length):(pre++(x::post)).set o y=pre++(y::post):=by
 subst ho;simp
def aW(k:Int)(w:Int)(r:List Int)(e:Int)(b:List Int)(c:List Int)(v:List Int):List Int:=k::(w::(r++(e::(b++(c++(v))))))
section
variable {k w e:Int}{r b c v:List Int}
theorem dL(hr:r.length=174)(hb:b.length=2)(hc:c.length=3)(hv:v.length=7):(aW k w r e b c v).length=189:=by simp[aW,hr,hb,hc,hv]
theorem b_:gi (aW k w r e b c v) 0=k:=by
 rw[show aW k w r e b c v=([])++(k::([w]++r++[e]++b++c++v)) by simp[aW]];exact xz SI
theorem dJ{y:Int}:dF (aW k w r e b c v) 0 [y]=aW y w r e b c v:=by
 rw[show aW k w r e b c v=([])++([k]++([w]++r++[e]++b++c++v)) by simp[aW],jC SI SI];simp[aW]
theorem vU:gi (aW k w r e b c v) 1=w:=by
 rw[show aW k w r e b c v=([k])++(w::(r++[e]++b++c++v)) by simp[aW]];exact xz SI
theorem jO{y:Int}:(aW k w r e b c v).set 1 y=aW k y r e b c v:=by
 rw[show aW k w r e b c v=([k])++(w::(r++[e]++b++c++v)) by simp[aW],set_mid SI];simp[aW]
theorem BX{y:Int}:dF (aW k w r e b c v) 1 [y]=aW k y r e b c v:=by
 rw[show aW k w r e b c v=([k])++([w]++(r++[e]++b++c++v)) by simp[aW],jC SI SI];simp[aW]
theorem gB(hr:r.length=174):sub (aW k w r e b c v) 2 174=r:=by
 rw[show aW k w r e b c v=([k]++[w])++(r++([e]++b++c++v)) by simp[aW]];exact pK SI OM
theorem iB(hr:r.length=174){y:List Int}(hy:y.length=174):dF (aW k w r e b c v) 2 y=aW k w y e b c v:=by
 rw[show aW k w r e b c v=([k]++[w])++(r++([e]++b++c++v)) by simp[aW],jC SI OM];simp[aW]
theorem Fg(hr:r.length=174):gi (aW k w r e b c v) 176=e:=by
 rw[show aW k w r e b c v=([k]++[w]++r)++(e::(b++c++v)) by simp[aW]];exact xz (by simp[hr])
theorem jP(hr:r.length=174){y:Int}:(aW k w r e b c v).set 176 y=aW k w r y b c v:=by
 rw[show aW k w r e b c v=([k]++[w]++r)++(e::(b++c++v)) by simp[aW],set_mid (by simp[hr])];simp[aW]
theorem BZ(hr:r.length=174){y:Int}:dF (aW k w r e b c v) 176 [y]=aW k w r y b c v:=by
 rw[show aW k w r e b c v=([k]++[w]++r)++([e]++(b++c++v)) by simp[aW],jC (by simp[hr]) SI];simp[aW]
theorem eU(hr:r.length=174)(hb:b.length=2):sub (aW k w r e b c v) 177 2=b:=by
 rw[show aW k w r e b c v=([k]++[w]++r++[e])++(b++(c++v)) by simp[aW]];exact pK (by simp[hr]) OM
theorem iC(hr:r.length=174)(hb:b.length=2){y:List Int}(hy:y.length=2):dF (aW k w r e b c v) 177 y=aW k w r e y c v:=by
 rw[show aW k w r e b c v=([k]++[w]++r++[e])++(b++(c++v)) by simp[aW],jC (by simp[hr]) OM];simp[aW]
theorem iD(hr:r.length=174)(hb:b.length=2)(hc:c.length=3):sub (aW k w r e b c v) 179 3=c:=by
 rw[show aW k w r e b c v=([k]++[w]++r++[e]++b)++(c++(v)) by simp[aW]];exact pK (by simp[hr,hb]) OM
theorem jk(hr:r.length=174)(hb:b.length=2)(hc:c.length=3){y:List Int}(hy:y.length=3):dF (aW k w r e b c v) 179 y=aW k w r e b y v:=by
 rw[show aW k w r e b c v=([k]++[w]++r++[e]++b)++(c++(v)) by simp[aW],jC (by simp[hr,hb]) OM];simp[aW]
theorem iE(hr:r.length=174)(hb:b.length=2)(hc:c.length=3)(hv:v.length=7):sub (aW k w r e b c v) 182 7=v:=by
 rw[show aW k w r e b c v=([k]++[w]++r++[e]++b++c)++(v++([])) by simp[aW]];exact pK (by simp[hr,hb,hc]) OM
theorem jl(hr:r.length=174)(hb:b.length=2)(hc:c.length=3)(hv:v.length=7){y:List Int}(hy:y.length=7):dF (aW k w r e b c v) 182 y=aW k w r e b c y:=by
 rw[show aW k w r e b c v=([k]++[w]++r++[e]++b++c)++(v++([])) by simp[aW],jC (by simp[hr,hb,hc]) OM];simp[aW]
end
theorem jG:aj 189=aW 0 0 (aj 174) 0 (aj 2) (aj 3) (aj 7):=by rfl
def aB(k:Int)(w:Int)(r:List Int)(n:Int)(e:Int)(b:List Int)(h:List Int)(c:List Int)(v:List Int):List Int:=k::(w::(r++(n::(e::(b++(h++(c++(v))))))))
section
variable {k w n e:Int}{r b h c v:List Int}
theorem fo(hr:r.length=174)(hb:b.length=2)(hh:h.length=2)(hc:c.length=3)(hv:v.length=7):(aB k w r n e b h c v).length=192:=by simp[aB,hr,hb,hh,hc,hv]
theorem aC:gi (aB k w r n e b h c v) 0=k:=by
 rw[show aB k w r n e b h c v=([])++(k::([w]++r++[n]++[e]++b++h++c++v)) by simp[aB]];exact xz SI
theorem Mm{y:Int}:(aB k w r n e b h c v).set 0 y=aB y w r n e b h c v:=by
 rw[show aB k w r n e b h c v=([])++(k::([w]++r++[n]++[e]++b++h++c++v)) by simp[aB],set_mid SI];simp[aB]
theorem bD{y:Int}:dF (aB k w r n e b h c v) 0 [y]=aB y w r n e b h c v:=by
 rw[show aB k w r n e b h c v=([])++([k]++([w]++r++[n]++[e]++b++h++c++v)) by simp[aB],jC SI SI];simp[aB]
theorem j4:gi (aB k w r n e b h c v) 1=w:=by
 rw[show aB k w r n e b h c v=([k])++(w::(r++[n]++[e]++b++h++c++v)) by simp[aB]];exact xz SI
theorem fD{y:Int}:(aB k w r n e b h c v).set 1 y=aB k y r n e b h c v:=by
 rw[show aB k w r n e b h c v=([k])++(w::(r++[n]++[e]++b++h++c++v)) by simp[aB],set_mid SI];simp[aB]
theorem B_{y:Int}:dF (aB k w r n e b h c v) 1 [y]=aB k y r n e b h c v:=by
 rw[show aB k w r n e b h c v=([k])++([w]++(r++[n]++[e]++b++h++c++v)) by simp[aB],jC SI SI];simp[aB]
theorem bO(hr:r.length=174):sub (aB k w r n e b h c v) 2 174=r:=by
 rw[show aB k w r n e b h c v=([k]++[w])++(r++([n]++[e]++b++h++c++v)) by simp[aB]];exact pK SI OM
theorem eX(hr:r.length=174){y:List Int}(hy:y.length=174):dF (aB k w r n e b h c v) 2 y=aB k w y n e b h c v:=by
 rw[show aB k w r n e b h c v=([k]++[w])++(r++([n]++[e]++b++h++c++v)) by simp[aB],jC SI OM];simp[aB]
theorem Fh(hr:r.length=174):gi (aB k w r n e b h c v) 176=n:=by
 rw[show aB k w r n e b h c v=([k]++[w]++r)++(n::([e]++b++h++c++v)) by simp[aB]];exact xz (by simp[hr])
theorem fE(hr:r.length=174){y:Int}:(aB k w r n e b h c v).set 176 y=aB k w r y e b h c v:=by
 rw[show aB k w r n e b h c v=([k]++[w]++r)++(n::([e]++b++h++c++v)) by simp[aB],set_mid (by simp[hr])];simp[aB]
theorem Mo(hr:r.length=174){y:Int}:dF (aB k w r n e b h c v) 176 [y]=aB k w r y e b h c v:=by
 rw[show aB k w r n e b h c v=([k]++[w]++r)++([n]++([e]++b++h++c++v)) by simp[aB],jC (by simp[hr]) SI];simp[aB]
theorem iW(hr:r.length=174):gi (aB k w r n e b h c v) 177=e:=by
 rw[show aB k w r n e b h c v=([k]++[w]++r++[n])++(e::(b++h++c++v)) by simp[aB]];exact xz (by simp[hr])
theorem fF(hr:r.length=174){y:Int}:(aB k w r n e b h c v).set 177 y=aB k w r n y b h c v:=by
 rw[show aB k w r n e b h c v=([k]++[w]++r++[n])++(e::(b++h++c++v)) by simp[aB],set_mid (by simp[hr])];simp[aB]
theorem Ca(hr:r.length=174){y:Int}:dF (aB k w r n e b h c v) 177 [y]=aB k w r n y b h c v:=by
 rw[show aB k w r n e b h c v=([k]++[w]++r++[n])++([e]++(b++h++c++v)) by simp[aB],jC (by simp[hr]) SI];simp[aB]
theorem bE(hr:r.length=174)(hb:b.length=2):sub (aB k w r n e b h c v) 178 2=b:=by
 rw[show aB k w r n e b h c v=([k]++[w]++r++[n]++[e])++(b++(h++c++v)) by simp[aB]];exact pK (by simp[hr]) OM
theorem ek(hr:r.length=174)(hb:b.length=2){y:List Int}(hy:y.length=2):dF (aB k w r n e b h c v) 178 y=aB k w r n e y h c v:=by
 rw[show aB k w r n e b h c v=([k]++[w]++r++[n]++[e])++(b++(h++c++v)) by simp[aB],jC (by simp[hr]) OM];simp[aB]
theorem dP(hr:r.length=174)(hb:b.length=2)(hh:h.length=2):sub (aB k w r n e b h c v) 180 2=h:=by
 rw[show aB k w r n e b h c v=([k]++[w]++r++[n]++[e]++b)++(h++(c++v)) by simp[aB]];exact pK (by simp[hr,hb]) OM
theorem eY(hr:r.length=174)(hb:b.length=2)(hh:h.length=2){y:List Int}(hy:y.length=2):dF (aB k w r n e b h c v) 180 y=aB k w r n e b y c v:=by
 rw[show aB k w r n e b h c v=([k]++[w]++r++[n]++[e]++b)++(h++(c++v)) by simp[aB],jC (by simp[hr,hb]) OM];simp[aB]
theorem dh(hr:r.length=174)(hb:b.length=2)(hh:h.length=2)(hc:c.length=3):sub (aB k w r n e b h c v) 182 3=c:=by
 rw[show aB k w r n e b h c v=([k]++[w]++r++[n]++[e]++b++h)++(c++(v)) by simp[aB]];exact pK (by simp[hr,hb,hh]) OM
theorem eu(hr:r.length=174)(hb:b.length=2)(hh:h.length=2)(hc:c.length=3){y:List Int}(hy:y.length=3):dF (aB k w r n e b h c v) 182 y=aB k w r n e b h y v:=by
 rw[show aB k w r n e b h c v=([k]++[w]++r++[n]++[e]++b++h)++(c++(v)) by simp[aB],jC (by simp[hr,hb,hh]) OM];simp[aB]
theorem dx(hr:r.length=174)(hb:b.length=2)(hh:h.length=2)(hc:c.length=3)(hv:v.length=7):sub (aB k w r n e b h c v) 185 7=v:=by
 rw[show aB k w r n e b h c v=([k]++[w]++r++[n]++[e]++b++h++c)++(v++([])) by simp[aB]];exact pK (by simp[hr,hb,hh,hc]) OM
theorem eB(hr:r.length=174)(hb:b.length=2)(hh:h.length=2)(hc:c.length=3)(hv:v.length=7){y:List Int}(hy:y.length=7):dF (aB k w r n e b h c v) 185 y=aB k w r n e b h c y:=by
 rw[show aB k w r n e b h c v=([k]++[w]++r++[n]++[e]++b++h++c)++(v++([])) by simp[aB],jC (by simp[hr,hb,hh,hc]) OM];simp[aB]
end
theorem eG:aj 192=aB 0 0 (aj 174) 0 0 (aj 2) (aj 2) (aj 3) (aj 7):=by rfl
def opI(k:Int)(i:Int)(j:Int)(key:Int)(n:Int)(c:List Int)(mask:Int)(iQ:Int)(cut:Int):List Int:=k::(i::(j::(key::(n::(c++(mask::(iQ::([cut]))))))))
def pI(e:Int)(b:List Int)(h:List Int)(c:List Int):List Int:=e::(b++(h++(c)))
class bG (P:Program) (t:TypeId) (n:outParam Nat):Prop where out:fw P t n
class aO (P:Program) (t:TypeId):Prop where out:jg P t
class wW (P:Program) (t:TypeId) (n:outParam Nat):Prop where out:fe P t n
class IZ (P:Program) (t:TypeId):Prop where out:dC P t
class qV (P:Program) (t:TypeId) (n:outParam Nat):Prop where out:nL P t n
class zL (P:Program) (t:TypeId) (len e q:outParam Nat):Prop where out:A9 P t len e q
section
variable {P:Program}{ops:Array Oper}{Q:Exit->Act->World->Prop}{a:Act}{rest:List Oper}{T:List Nat}{w0 w:World}{m m':List aG}{dst:Option Tmp}{ty:TypeId}{pos:String}{af:Array Edge}
variable {x y:Operand}{t n b off:Nat}{e:TypeId}{zs vs:List Int}{cs:List Value}{v:Value}
theorem kon{op:Op}{j:Nat}{want:Bool}(h:yielded ops a.tmps j=some want:=by exact RF)(k:wpList P ops Q (⟨dst,op,ty,pos,af,none⟩::rest) a w):wpList P ops Q (⟨dst,op,ty,pos,af,some (j,want)⟩::rest) a w:=QC h k
theorem YI(hI:Inv T w0 w m)(hx:a.eval x=.pointer (some ⟨b,0,none⟩):=by exact RF)(hm:ib b e zs∈m:=by exact MM)[hT:bG P t n]
  (hl:zs.length=n:=by exact LN)
  (k:wpList P ops Q rest (a.put dst (ia zs)) w):wpList P ops Q (⟨dst,.load t x,ty,pos,af,none⟩::rest) a w:=BO hI hx hm hT.out hl k
theorem aiZ(hI:Inv T w0 w m)(hx:a.eval x=.pointer (some ⟨b,off,none⟩):=by exact RF)(hm:ib b e zs∈m:=by exact MM)[hT:bG P t n]
  (hl:off+n<=zs.length:=by exact LN)
  (k:wpList P ops Q rest (a.put dst (ia (sub zs off n))) w):wpList P ops Q (⟨dst,.load t x,ty,pos,af,none⟩::rest) a w:=uW hI hx hm hT.out hl k
theorem ai0(hI:Inv T w0 w m)(hx:a.eval x=.pointer (some ⟨b,off,none⟩):=by exact RF)(hm:ib b e zs∈m:=by exact MM)[hT:aO P t]
  (hl:off<zs.length:=by exact LN)
  (k:wpList P ops Q rest (a.put dst (.int .i64 (gi zs off))) w):wpList P ops Q (⟨dst,.load t x,ty,pos,af,none⟩::rest) a w:=BP hI hx hm hT.out hl k
theorem ai1(hI:Inv T w0 w m)(hx:a.eval x=.pointer (some ⟨b,off,none⟩):=by exact RF)(hm:blk b e cs∈m:=by exact MM)[hT:aO P t]
  (hv:cs[off]? =some v:=by exact RF)
  (k:wpList P ops Q rest (a.put dst v) w):wpList P ops Q (⟨dst,.load t x,ty,pos,af,none⟩::rest) a w:=aS hI hx hm hT.out hv k
theorem ahs(hI:Inv T w0 w m)(hx:a.eval x=.pointer (some ⟨b,off,none⟩):=by exact RF)(hv:a.eval y=ia vs:=by exact RF)
  (hu:aR (ib b e zs) (ib b e (dF zs off vs)) m m':=by exact UU) [hT:bG P t n]
  (hl:vs.length=n:=by exact LN) (ho:off+n<=zs.length:=by exact LN)
  (k:∀w',Inv T w0 w' m'->wpList P ops Q rest (a.put dst undef) w'):wpList P ops Q (⟨dst,.store t x y,ty,pos,af,none⟩::rest) a w:=uA hI hx hv hu hT.out hl ho k
theorem Mq(hI:Inv T w0 w m)(hx:a.eval x=.pointer (some ⟨b,0,none⟩):=by exact RF)(hv:a.eval y=ia vs:=by exact RF)
  (hu:aR (ib b e zs) (ib b e vs) m m':=by exact UU) [hT:bG P t n]
  (hl:vs.length=n:=by exact LN) (ho:zs.length=n:=by exact LN)
  (k:∀w',Inv T w0 w' m'->wpList P ops Q rest (a.put dst undef) w'):wpList P ops Q (⟨dst,.store t x y,ty,pos,af,none⟩::rest) a w:=uB hI hx hv hu hT.out hl ho k
theorem aht{v:Int}(hI:Inv T w0 w m)(hx:a.eval x=.pointer (some ⟨b,off,none⟩):=by exact RF)(hv:a.eval y=.int .i64 v:=by exact RF)
  (hu:aR (ib b e zs) (ib b e (zs.set off v)) m m':=by exact UU) [hT:aO P t]
  (ho:off<zs.length:=by exact LN)
  (k:∀w',Inv T w0 w' m'->wpList P ops Q rest (a.put dst undef) w'):wpList P ops Q (⟨dst,.store t x y,ty,pos,af,none⟩::rest) a w:=A7 hI hx hv hu hT.out ho k
theorem ahu{u:Bool}(hI:Inv T w0 w m)(hx:a.eval x=.pointer (some ⟨b,off,none⟩):=by exact RF)(hv:a.eval y=.bool u:=by exact RF)
  (hu:aR (blk b e cs) (blk b e (cs.set off (.bool u))) m m':=by exact UU) [hT:aO P t]
  (ho:off<cs.length:=by simp)
  (k:∀w',Inv T w0 w' m'->wpList P ops Q rest (a.put dst undef) w'):wpList P ops Q (⟨dst,.store t x y,ty,pos,af,none⟩::rest) a w:=jF hI hx hv rfl rfl hu hT.out ho k
theorem ahv{u:Option Addr}(hI:Inv T w0 w m)(hx:a.eval x=.pointer (some ⟨b,off,none⟩):=by exact RF)(hv:a.eval y=.pointer u:=by exact RF)
  (hu:aR (blk b e cs) (blk b e (cs.set off (.pointer u))) m m':=by exact UU) [hT:aO P t]
  (ho:off<cs.length:=by simp)
  (k:∀w',Inv T w0 w' m'->wpList P ops Q rest (a.put dst undef) w'):wpList P ops Q (⟨dst,.store t x y,ty,pos,af,none⟩::rest) a w:=jF hI hx hv rfl rfl hu hT.out ho k
theorem ahw{u:Option Addr}{q c:Nat}(hI:Inv T w0 w m)(hx:a.eval x=.pointer (some ⟨b,off,none⟩):=by exact RF)(hv:a.eval y=.slice u q c:=by exact RF)
  (hu:aR (blk b e cs) (blk b e (cs.set off (.slice u q c))) m m':=by exact UU) [hT:aO P t]
  (ho:off<cs.length:=by simp)
  (k:∀w',Inv T w0 w' m'->wpList P ops Q rest (a.put dst undef) w'):wpList P ops Q (⟨dst,.store t x y,ty,pos,af,none⟩::rest) a w:=jF hI hx hv rfl rfl hu hT.out ho k
theorem ahx{kd:IntKind}{u:Int}(hI:Inv T w0 w m)(hx:a.eval x=.pointer (some ⟨b,off,none⟩):=by exact RF)(hv:a.eval y=.int kd u:=by exact RF)
  (hu:aR (blk b e cs) (blk b e (cs.set off (.int kd u))) m m':=by exact UU) [hT:aO P t]
  (ho:off<cs.length:=by simp)
  (k:∀w',Inv T w0 w' m'->wpList P ops Q rest (a.put dst undef) w'):wpList P ops Q (⟨dst,.store t x y,ty,pos,af,none⟩::rest) a w:=jF hI hx hv rfl rfl hu hT.out ho k
theorem afs(hI:Inv T w0 w m)(hv:a.eval x=ia zs:=by exact RF)
  (k:∀b w',Inv T w0 w' (ib b t zs::m)->wpList P ops Q rest (a.put dst (.pointer (some ⟨b,0,none⟩))) w'):wpList P ops Q (⟨dst,.box t x,ty,pos,af,none⟩::rest) a w:=EM hI hv k
theorem Cb(hI:Inv T w0 w m)[hz:wW P t n]
  (k:∀b w',Inv T w0 w' (ib b t (aj n)::m)->wpList P ops Q rest (a.put dst (.pointer (some ⟨b,0,none⟩))) w'):wpList P ops Q (⟨dst,.alloc t,ty,pos,af,none⟩::rest) a w:=A8 hI hz.out k
theorem ahy{t':Nat}(hx:a.eval x=ia zs:=by exact RF)(hy:a.eval y=ia zs:=by exact RF)[hT:bG P t n][hF:qV P t n](h1:zs.length=n:=by exact LN)
  (k:wpList P ops Q rest (a.put dst (.bool true)) w):wpList P ops Q (⟨dst,.binOp .eql t x y t',ty,pos,af,none⟩::rest) a w:=BR hx hy hT.out hF.out h1 k
theorem keq{t':Nat}{ws:List Int}(hx:a.eval x=ia zs:=by exact RF)(hy:a.eval y=ia ws:=by exact RF)[hT:bG P t n][hF:qV P t n]
  (h1:zs.length=n:=by exact LN) (h2:ws.length=n:=by exact LN)
  (k:wpList P ops Q rest (a.put dst (.bool (decide (zs=ws)))) w):wpList P ops Q (⟨dst,.binOp .eql t x y t',ty,pos,af,none⟩::rest) a w:=yB hx hy hT.out hF.out h1 h2 k
theorem kne{t':Nat}{ws:List Int}(hx:a.eval x=ia zs:=by exact RF)(hy:a.eval y=ia ws:=by exact RF)[hT:bG P t n][hF:qV P t n]
  (h1:zs.length=n:=by exact LN) (h2:ws.length=n:=by exact LN)
  (k:wpList P ops Q rest (a.put dst (.bool (!decide (zs=ws)))) w):wpList P ops Q (⟨dst,.binOp .neq t x y t',ty,pos,af,none⟩::rest) a w:=jM hx hy hT.out hF.out h1 h2 k
theorem ahz{len e q:Nat}{k0:IntKind}{i:Int}(hx:a.eval x=ia zs:=by exact RF)(hy:a.eval y=.int k0 i:=by exact RF)[hA:zL P t len e q][hT:bG P e q](h0:0<=i:=by omega)(h1:i<len:=by omega)
  (k:wpList P ops Q rest (a.put dst (ia (sub zs (i.toNat*q) q))) w):wpList P ops Q (⟨dst,.index t x y,ty,pos,af,none⟩::rest) a w:=A_ hx hy hA.out hT.out h0 h1 k
theorem aft{len e:Nat}{k0:IntKind}{i:Int}(hx:a.eval x=ia zs:=by exact RF)(hy:a.eval y=.int k0 i:=by exact RF)[hA:zL P t len e 1][hT:aO P e](h0:0<=i:=by omega)(h1:i<len:=by omega)
  (hl:zs.length=len:=by exact LN)
  (k:wpList P ops Q rest (a.put dst (.int .i64 (gi zs i.toNat))) w):wpList P ops Q (⟨dst,.index t x y,ty,pos,af,none⟩::rest) a w:=uC hx hy hA.out hT.out h0 h1 hl k
theorem ahA[hz:wW P t n][hK:IZ P t](k:wpList P ops Q rest (a.put dst (ia (aj n))) w):wpList P ops Q (⟨dst,.build t #[],ty,pos,af,none⟩::rest) a w:=zJ hz.out hK.out k
end
def Ba(P:Program)(t i off q:Nat):Prop:=∃fs:Array Field,P.underlying t=some (.struct fs)∧(fs.toList[i]?).map (placeOf P)=some (off,q)
def G7(P:Program)(t:Nat):Prop:=∃fs:Array Field,P.underlying t=some (.struct fs)∧(fs.toList.all (λf=>(P.info? f.type).isSome))=true
def Cc:List Value->List (Nat×List Value)->List Value
 |zs,[]=>zs
 |zs,(o,vs)::l=>Cc (splice zs o vs) l
def Ce(P:Program)(a:Act)(t n:Nat):List (Nat×Operand)->List (Nat×List Value)->Prop
 | [],[]=>True
 | (i,x)::ps,(o,vs)::l=>(a.eval x).cells=vs.toArray∧Ba P t i o vs.length∧o+vs.length<=n∧Ce P a t n ps l
 |_,_=>False
theorem Mr{zs vs:List Value}{o:Nat}(h:o+vs.length<=zs.length):(splice zs o vs).length=zs.length:=by
 simp[splice];omega
theorem foldl_set(vs:List Value):∀(k:Nat) (zs:List Value) (o:Nat),o+k+vs.length<=zs.length->
  (vs.zipIdx k).foldl (λ(cs:Array Value) (x:Value×Nat)=>cs.setIfInBounds (o+x.2) x.1) zs.toArray=(splice zs (o+k) vs).toArray:=by
 induction vs with
 |nil=>intro k zs o h;simp[splice]
 |cons v vs ih=>
  intro k zs o h;simp only[List.length_cons]at h;simp only[List.zipIdx_cons,List.foldl_cons,List.setIfInBounds_toArray];rw[ih (k+1) (zs.set (o+k) v) o (by simp;omega),<-Nat.add_assoc,Al zs (o+k) v vs OM]
theorem Cf{P:Program}{a:Act}{t n:Nat}{fs:Array Field}(hu:P.underlying t=some (.struct fs)):∀(ps:List (Nat×Operand)) (l:List (Nat×List Value)) (zc:List Value),zc.length=n->Ce P a t n ps l->
  Instr.fill (λi=>Option.map (placeOf P) fs[i]?) zc.toArray (ps.map λp=>(p.1,a.eval p.2))=some (Cc zc l).toArray
 | [],[],zc,_,_=>rfl
 | (i,x)::ps,(o,vs)::l,zc,hn,⟨h1,⟨fs',hu',hf⟩,h3,h4⟩=>by
  rw[hu]at hu';obtain rfl:fs=fs':=by simpa using hu'
  have hp:Option.map (placeOf P) fs[i]? =some (o,vs.length):=by simpa using hf
  simp only[List.map_cons,Instr.fill,hp,h1,List.size_toArray];rw[if_neg (by simp;omega)];have:=foldl_set vs 0 zc o OM;rw[Nat.add_zero,<-List.foldl_toArray,<-Array.zipIdx_toArray]at this;rw[this];exact Cf hu ps l (splice zc o vs) (by rw[Mr OM];exact hn) h4
 | [],_::_,_,_,h=>h.elim
 |_::_,[],_,_,h=>h.elim
section
variable {P:Program}{ops:Array Oper}{Q:Exit->Act->World->Prop}{a:Act}{rest:List Oper}{T:List Nat}{w0 w:World}{m m':List aG}{dst:Option Tmp}{ty:TypeId}{pos:String}{af:Array Edge}
theorem ik{t n:Nat}{ps:List (Nat×Operand)}{z:Value}{zc:List Value}(l:List (Nat×List Value))(hz:(P.info? t).map (·.zero)=some (some z))(hzc:z.cells=zc.toArray)(hn:zc.length=n)(hS:G7 P t)(hp:Ce P a t n ps l)
  (k:wpList P ops Q rest (a.put dst (.agg (Cc zc l).toArray)) w):wpList P ops Q (⟨dst,.build t ps.toArray,ty,pos,af,none⟩::rest) a w:=by
 refine au ?_ k;obtain⟨fs,hu,hK⟩:=hS;obtain⟨inf,zM,hz'⟩:=Option.map_eq_some_iff.1 hz;have hzv:(zeroValue t).run P w=.ok z w:=by simp[zeroValue,typeInfo,zM,hz']
 have hr:=l6 (P:=P) fs.toList (List.all_eq_true.1 hK) w;unfold fP execOp;simp only[List.map_toArray,Instr.build,Sem.run_bind,hzv,Result.andThen_ok,run_underlying hu];rw[<-Array.toArray_toList (xs:=fs),List.mapM_toArray];simp only[Sem.run_map,hr,hzc];have hf:=Cf (a:=a) hu ps l zc hn hp;simp[hf]
end
def Rd(w:World)(a:Option Addr)(xs:List Value):Prop:=∀j u,xs[j]? =some u->∃b off,a=some ⟨b,off,none⟩∧w.cell? ⟨b,off+j,none⟩=some u
theorem Rd.nil(w:World)(a:Option Addr):Rd w a []:=λ_ _ h=>by simp at h
theorem Rd.below{w w':World}{a:Option Addr}{xs:List Value}(h:Rd w a xs)(hb:Below w.heap.size w w'):Rd w' a xs:=λj u hj=>by
 obtain⟨b,off,ha,hc⟩:=h j u hj;exact⟨b,off,ha,(hb.cell (World.block_lt_of_cell? _ _ hc)).trans hc⟩
def bf(e:TypeId)(size:Nat)(v:Value)(n:Nat)(xs:List Value):aG:=
 ⟨v.ownBlock.toList,λw=>w.ownsRow 0 e size v n xs,λw w' h hs=>by
  refine⟨hs.1,?_⟩;rcases hs.2 with h0| ⟨g,cap,cur,rfl,hb,hg,rest⟩
  ·exact .inl h0
  ·exact .inr ⟨g,cap,cur,rfl,hb,(h g (by simp[Value.ownBlock])).trans hg,rest⟩⟩
theorem Cg{w:World}{e:TypeId}{size n c:Nat}{a:Option Addr}{n':Nat}{xs:List Value}(h:w.ownsRow 0 e size (.slice a n' c) n xs):Rd w a xs:=by
 intro j u hj;rcases h.2 with⟨hv,rfl⟩ | ⟨g,cap,cur,hv,_,hg,_,_,_,ht⟩
 ·have:xs=[]:=List.eq_nil_of_length_eq_zero (by simpa using h.1)
  subst this;simp at hj
 ·cases hv
  refine⟨g,0,rfl,?_⟩;have:=h.cells (g:=g) rfl j u hj
  rwa [jE]at this
structure uY (P:Program) (t e:TypeId) (size bytes:Nat) (z:Value):Prop where
 und:P.underlying t=some (.slice e)
 inf:(P.info? e).map (λi=>(i.zero,i.size,i.bytes))=some (some z,size,bytes)
 zc:z.cells.size=size
 pos:0<size
theorem uY.info{P:Program}{t e size bytes:Nat}{z:Value}(h:uY P t e size bytes z):∃i,P.info? e=some i∧i.zero=some z∧i.size=size∧i.bytes=bytes:=by
 obtain⟨i,hi,he⟩:=Option.map_eq_some_iff.1 h.inf;simp only[Prod.mk.injEq]at he;exact⟨i,hi,he.1,he.2.1,he.2.2⟩
section
variable {P:Program}
theorem Ch{w:World}{t e size bytes:Nat}{z:Value}(hT:uY P t e size bytes z)(ty:TypeId){a0:Option Addr}{n c0:Nat}{xs:List Value}(hown:w.ownsRow 0 e size (.slice a0 n c0) n xs)
  {ao:Option Addr} {q c:Nat} {news:List Value} (hr:Rd w ao news) (hl:news.length=q*size) (h1:∀u∈news,u.oneCell'=true) (h63:n+q<=maxLen) (hbytes:(n+q)*bytes<=140737488355328):
  ∃a' c' w',(Builtin.append_ #[t,t] ty #[.slice a0 n c0,.slice ao q c]).run P w=.ok (.slice a' (n+q) c') w'∧w'.ownsRow 0 e size (.slice a' (n+q) c') (n+q) (xs++news)∧
   Step (Value.ownBlock (.slice a0 n c0)).toList w w'∧(∀k,(Value.ownBlock (.slice a' (n+q) c'))=some k->(Value.ownBlock (.slice a0 n c0))=some k∨(w.heap.size<=k∧k<w'.heap.size)):=by
 obtain⟨i,hi,hz,rfl,rfl⟩:=hT.info;have ht:=hT.und;have hsz:=hT.pos;have hzs:=hT.zc;have hlen:(xs++news).length=(n+q)*i.size:=by rw[List.length_append,hown.1,hl,Nat.add_mul]
 have nothing:q=0->Src P i.size t (.slice ao q c) 0 [] w->n<=c0->(Builtin.append_ #[t,t] ty #[.slice a0 n c0,.slice ao q c]).run P w=.ok (.slice a0 (n+q) c0) w:=by
  intro hq hs hle;subst hq;exact run_append_nothing w t t ty e i ht hi a0 n c0 hle _ hs
 have same:q=0->n<=c0->Src P i.size t (.slice ao q c) 0 [] w->∃a' c' w',(Builtin.append_ #[t,t] ty #[.slice a0 n c0,.slice ao q c]).run P w=.ok (.slice a' (n+q) c') w'∧w'.ownsRow 0 e i.size (.slice a' (n+q) c') (n+q) (xs++news)∧
   Step (Value.ownBlock (.slice a0 n c0)).toList w w'∧(∀k,(Value.ownBlock (.slice a' (n+q) c'))=some k->(Value.ownBlock (.slice a0 n c0))=some k∨(w.heap.size<=k∧k<w'.heap.size)):=by
  intro hq hle hs;have hrn:=nothing hq hs hle;subst hq;have hn:news=[]:=List.eq_nil_of_length_eq_zero (by simpa using hl);subst hn;exact⟨a0,c0,w,hrn,by simpa using hown,.refl _ _,λk hk=> .inl (by cases a0<;>exact hk)⟩
 have hle:n<=c0:=by
  rcases hown.2 with⟨hv,rfl⟩ | ⟨g,cap,cur,hv,_,_,hc,_⟩
  ·exact Nat.zero_le _
  ·cases hv;exact hc
 cases ao with
 |none=>
  have hn:news=[]:=by
   cases news with
   |nil=>rfl
   |cons u l=>obtain⟨_,_,h,_⟩:=hr 0 u rfl;cases h
  subst hn;have hq:q=0:=by
   have h0:q*i.size=0:=by simpa using hl.symm
   rcases Nat.mul_eq_zero.1 h0 with h|h
   ·exact h
   ·omega
  exact same hq hle (by subst hq;exact Src.ofNil w ht c)
 |some ad=>
  have hnews:∀j u,news[j]? =some u->w.cell? (ad.add j)=some u:=by
   intro j u hj;obtain⟨b,off,hab,hc⟩:=hr j u hj;obtain rfl:=Option.some.inj hab;rw[jE];exact hc
  by_cases hq:q=0
  ·refine same hq hle ?_
   subst hq;have hn:news=[]:=List.eq_nil_of_length_eq_zero (by simpa using hl);exact Src.ofSlice w ht ad 0 c [] SI (λ_ _ h=>by simp at h) (λ_ h=>by simp at h)
  ·have grown:∀(old:Nat),old<n+q->∀(row:List Nat),
     (w.drew.alloc (.cells (xs.toArray++news.toArray++Builtin.zeroCells z.cells (grownCap w (n+q) old e- (n+q))) e)).ownsRow 0 e i.size
      (.slice (some ⟨w.heap.size,0,none⟩) (n+q) (grownCap w (n+q) old e)) (n+q) (xs++news)∧
     Step row w (w.drew.alloc (.cells (xs.toArray++news.toArray++Builtin.zeroCells z.cells (grownCap w (n+q) old e- (n+q))) e)):=by
    intro old ho row;have hge:=grownCap_ge w (n+q) old e;have hcm:grownCap w (n+q) old e<=maxLen:=grownCap_le_maxLen w (n+q) old e h63;refine⟨⟨hlen,.inr ⟨w.heap.size,_,_,rfl,Nat.zero_le _,heap_alloc_new w.drew _,hge,hcm,?_,?_⟩⟩,⟨rfl,rfl,rfl,by simp,λk hk _=>_root_.Go.heap_alloc_old w.drew _ hk⟩⟩
    ·simp only[Array.size_append,List.size_toArray,size_zeroCells,hzs,hown.1,hl,<-Nat.add_mul]
     congr 1;omega
    ·simp only[Array.toList_append,List.append_assoc]
     rw[<-List.append_assoc,<-hlen];exact List.take_left
   have hm63:n+q<=9223372036854775807:=by simp only[maxLen]at h63;omega
   rcases hown.2 with⟨hv,rfl⟩ | ⟨g,cap,cur,hv,hbg,hg,hnc,hcm,hcs,htake⟩
   ·cases hv
    have hx:xs=[]:=List.eq_nil_of_length_eq_zero (by simpa using hown.1);subst hx;have hrr:=run_append_nil (P:=P) w t ty e i z ht hi hz ad q c news hl hnews OM OM (by have hb:=hbytes;simp only[Nat.zero_add]at hb;omega);have hgr:=grown 0 OM (Value.ownBlock (.slice none 0 0)).toList;simp only[Nat.zero_add,List.nil_append,Array.empty_append]at hgr hrr|-;exact⟨_,_,_,hrr,hgr.1,hgr.2,λk hk=> .inr (by
     have hk:w.heap.size=k:=by simpa[Value.ownBlock]using hk
     subst hk;simp)⟩
   ·cases hv
    by_cases hroom:n+q<=c0
    ·have hfit:n*i.size+news.length<=cur.size:=by rw[hl,hcs,<-Nat.add_mul];exact Nat.mul_le_mul_right _ hroom
     have hrr:=run_append_room (P:=P) w t ty e i ht hi g n c0 cur hg ad q c news hl hnews h1 hroom hfit;refine⟨_,_,_,hrr,⟨hlen,.inr ⟨g,c0,_,rfl,hbg,setRow_heap w g cur _ e _ hg,hroom,hcm,?_,?_⟩⟩,⟨rfl,rfl,rfl,by simp,λk _ hk=>setRow_other w g k _ (λe=>hk (by simp[Value.ownBlock,e]))⟩,λk hk=> .inl (by simpa[Value.ownBlock]using hk)⟩
     ·simp only[List.size_toArray,List.length_append,List.length_take,List.length_drop,Array.length_toList]
      omega
     ·rw[htake,<-hlen]
      exact List.take_left
    ·have holds:∀j u,xs[j]? =some u->w.cell? ((⟨g,0,none⟩:Addr).add j)=some u:=hown.cells (g:=g) rfl
     have hrr:=run_append_grow (P:=P) w t ty e i z ht hi hz ⟨g,0,none⟩ n c0 xs hown.1 holds ad q c news hl hnews OM OM (growslice_fits OM hbytes);have hgr:=grown c0 OM (Value.ownBlock (.slice (some ⟨g,0,none⟩) n c0)).toList;exact⟨_,_,_,hrr,hgr.1,hgr.2,λk hk=> .inr (by
      have hk:w.heap.size=k:=by simpa[Value.ownBlock]using hk
      subst hk;simp)⟩
variable {ops:Array Oper}{Q:Exit->Act->World->Prop}{a:Act}{rest:List Oper}{T:List Nat}{w0 w:World}{m m1:List aG}{dst:Option Tmp}{ty:TypeId}{pos:String}{af:Array Edge}
theorem Inv.Av(h:Inv T w0 w m)(e:TypeId)(size:Nat):Inv T w0 w (bf e size (.slice none 0 0) 0 []::m):=
 h.new (.refl _ _) (World.ownsRow_nil w 0 e size) (by simp[bf,Value.ownBlock]) (by simp[bf,Value.ownBlock])
theorem Inv.seq{w':World}(h:Inv T w0 w m)(hJ:Inv [] w w' m1):Inv T w0 w' (m1++m):=by
 refine⟨hJ.os.trans h.os,hJ.tape.trans h.tape,hJ.output.trans h.output,Nat.le_trans h.size hJ.size,λk hk Mc=>(hJ.old k (Nat.lt_of_lt_of_le hk h.size) SI).trans (h.old k hk Mc),λr hr=>?_,λk hk=>?_,?_⟩
 ·rcases List.mem_append.1 hr with hr|hr
  ·exact hJ.sat r hr
  ·exact r.loc w w' (λk hk=>hJ.old k (h.mine k (dE.2 ⟨r,hr,hk⟩)).2 SI) (h.sat r hr)
 ·rw[fA]at hk
  rcases List.mem_append.1 hk with hk|hk
  ·obtain⟨h1,h2⟩:=hJ.mine k hk
   rcases h1 with h1|h1
   ·exact⟨.inl (Nat.le_trans h.size h1),h2⟩
   ·simp at h1
  ·have:=h.mine k hk
   exact⟨this.1,Nat.lt_of_lt_of_le this.2 hJ.size⟩
 ·rw[fA,List.nodup_append]
  refine⟨hJ.apart,h.apart,λk hk j hj=>?_⟩;have h1:=(hJ.mine k hk).1;have h2:=(h.mine j hj).2;rcases h1 with h1|h1
  ·omega
  ·simp at h1
theorem az{m':aG->List aG}{s x:Operand}{t e size bytes n q c0 c:Nat}{z:Value}{a0 ao:Option Addr}{xs news:List Value}(hI:Inv T w0 w m)(hs:a.eval s=.slice a0 n c0)(hx:a.eval x=.slice ao q c)
  (hT:uY P t e size bytes z) (hu:∀r',aR (bf e size (.slice a0 n c0) n xs) r' m (m' r')) (hr:Rd w ao news) (hl:news.length=q*size) (h1:∀u∈news,u.oneCell'=true) (h63:n+q<=maxLen) (hbytes:(n+q)*bytes<=140737488355328)
  (k:∀a' c' w',Inv T w0 w' (m' (bf e size (.slice a' (n+q) c') (n+q) (xs++news)))->wpList P ops Q rest (a.put dst (.slice a' (n+q) c')) w'):
  wpList P ops Q (⟨dst,.call {callee:=.builtin .append,args:= #[s,x],argTypes:= #[t,t]},ty,pos,af,none⟩::rest) a w:=
 wpList_plain rfl λK hK=>by
  have hown:w.ownsRow 0 e size (.slice a0 n c0) n xs:=by
   obtain⟨m1,m2,rfl,_⟩:=(hu (bf e size (.slice a0 n c0) n xs)).split;exact hI.sat (bf e size (.slice a0 n c0) n xs) SI
  obtain⟨a',c',w',hrun,ho,hst,hk⟩:=Ch (P:=P) hT ty hown hr hl h1 h63 hbytes (c:=c);unfold Oper.wp execOp;simp only[resolve,invoke,builtin,Sem.run_bind,Sem.run_pure,Result.andThen_ok,List.map_toArray,List.map_cons,List.map_nil,hs,hx,hrun];refine hK _ _ (k a' c' w' (hI.upd (hu _) hst ho (λj hj=>?_) ?_))
  ·have hj:Value.ownBlock (.slice a' (n+q) c')=some j:=by simpa[bf]using hj
   rcases hk j hj with h|h
   ·exact .inl (by simp[bf,h])
   ·exact .inr h
  ·cases a'<;>simp[bf,Value.ownBlock]
theorem gJ{t e size bytes len:Nat}{z:Value}{parts:Array (Nat×Operand)}{cs:List Value}(hI:Inv T w0 w m)(hT:uY P t e size bytes z)(hb:len*size<=16777216)(hb2:0<len)
  (hf:Instr.fill (λi=>some (i*size,size)) ((Array.range (len*size)).map (z.cells[· %z.cells.size]!)) (parts.map λ(i,x)=>(i,a.eval x)).toList=some cs.toArray) (hl:cs.length=len*size)
  (k:∀b w',Inv T w0 w' (bf e size (.slice (some ⟨b,0,none⟩) len len) len cs::m)->wpList P ops Q rest (a.put dst (.slice (some ⟨b,0,none⟩) len len)) w'):
  wpList P ops Q (⟨dst,.buildSlice t len parts,ty,pos,af,none⟩::rest) a w:=
 wpList_plain rfl λK hK=>by
  obtain⟨i,hi,hz,rfl,rfl⟩:=hT.info;have hpos:=hT.pos;have hne:¬(len*i.size=0):=by
   intro h;rcases Nat.mul_eq_zero.1 h with h|h<;>omega
  have hb':¬(len*i.size>2^24):=by omega
  unfold Oper.wp execOp;have hrun:(Instr.buildSlice t len (parts.map λ(i,x)=>(i,a.eval x))).run P w=.ok (.slice (some ⟨w.heap.size,0,none⟩) len len) (w.alloc (.cells cs.toArray e)):=by
   have hzv:(zeroValue e).run P w=.ok z w:=by simp[zeroValue,typeInfo,hi,hz]
   simp only[Instr.buildSlice,Sem.run_bind,run_underlying hT.und,Result.andThen_ok,dH (show(P.info? e).map (·.size)=some i.size by rw[hi];rfl),if_neg hb',if_neg hne,Sem.run_pure,hzv,hf];rfl
  simp only[Sem.run_bind,hrun,Result.andThen_ok,Sem.run_pure];refine hK _ _ (k w.heap.size _ ?_);refine hI.new ⟨rfl,rfl,rfl,by simp,λk hk _=>_root_.Go.heap_alloc_old w _ hk⟩ ?_ (by simp[bf,Value.ownBlock]) (by simp[bf,Value.ownBlock]);refine⟨hl,.inr ⟨w.heap.size,len,_,rfl,Nat.zero_le _,heap_alloc_new w _,Nat.le_refl _,?_,?_,?_⟩⟩
  ·simp only[maxLen]
   have:len*1<=len*i.size:=Nat.mul_le_mul_left _ hpos;omega
  ·simp[hl]
  ·simp[<-hl]
theorem qg{t e bytes:Nat}{x0:Operand}{v0:Int}(hI:Inv T w0 w m)(hT:uY P t e 1 bytes (.int .i64 0))(h0:a.eval x0=.int .i64 v0)
  (k:∀b w',Inv T w0 w' (bf e 1 (.slice (some ⟨b,0,none⟩) 1 1) 1 [.int .i64 v0]::m)->wpList P ops Q rest (a.put dst (.slice (some ⟨b,0,none⟩) 1 1)) w'):
  wpList P ops Q (⟨dst,.buildSlice t 1 #[(0,x0)],ty,pos,af,none⟩::rest) a w:=
 gJ hI hT DC DC (by simp[Instr.fill,h0,Value.cells,show Array.range 1=#[0]from by decide]) (by rfl) k
theorem qh{t e bytes:Nat}{x0 x1:Operand}{v0 v1:Int}(hI:Inv T w0 w m)(hT:uY P t e 1 bytes (.int .i64 0))(h0:a.eval x0=.int .i64 v0)(h1:a.eval x1=.int .i64 v1)
  (k:∀b w',Inv T w0 w' (bf e 1 (.slice (some ⟨b,0,none⟩) 2 2) 2 [.int .i64 v0,.int .i64 v1]::m)->wpList P ops Q rest (a.put dst (.slice (some ⟨b,0,none⟩) 2 2)) w'):
  wpList P ops Q (⟨dst,.buildSlice t 2 #[(0,x0),(1,x1)],ty,pos,af,none⟩::rest) a w:=
 gJ hI hT DC DC (by simp[Instr.fill,h0,h1,Value.cells,show Array.range 2=#[0,1]from by decide]) (by rfl) k
theorem Inv.rd{e size n n' c:Nat}{a':Option Addr}{xs:List Value}(h:Inv T w0 w m)(hm:bf e size (.slice a' n' c) n xs∈m):Rd w a' xs:=Cg (h.sat _ hm)
theorem Inv.Jg{a':Option Addr}{xs:List Value}(h:Inv [] w0 w m)(hr:Rd w0 a' xs):Rd w a' xs:=hr.below h.below
end
theorem Rd.drop{w:World}{b off:Nat}{xs:List Value}(h:Rd w (some ⟨b,off,none⟩) xs)(k:Nat):Rd w (some ⟨b,off+k,none⟩) (xs.drop k):=by
 intro j u hj;rw[List.getElem?_drop]at hj;obtain⟨b',off',ha,hc⟩:=h (k+j) u hj;cases ha;exact⟨b,off+k,rfl,by rw[Nat.add_assoc];exact hc⟩
theorem Rd.take{w:World}{a:Option Addr}{xs:List Value}(h:Rd w a xs)(k:Nat):Rd w a (xs.take k):=by
 intro j u hj;rw[List.getElem?_take]at hj
 split at hj
 ·exact h j u hj
 ·cases hj
theorem Rd.map_drop{α:Type}{f:α->Value}{w:World}{b off:Nat}{xs:List α}(h:Rd w (some ⟨b,off,none⟩) (xs.map f))(k:Nat):Rd w (some ⟨b,off+k,none⟩) ((xs.drop k).map f):=by
 rw[List.map_drop];exact h.drop k
theorem Rd.map_take{α:Type}{f:α->Value}{w:World}{a:Option Addr}{xs:List α}(h:Rd w a (xs.map f))(k:Nat):Rd w a ((xs.take k).map f):=by
 rw[List.map_take];exact h.take k
theorem gu{T:List Nat}{w0 w:World}{m:List aG}{e size n n' c:Nat}{a':Option Addr}{xs:List Value}(h:Inv T w0 w m)(hm:bf e size (.slice a' n' c) n xs∈m)(hx:0<xs.length):∃g,a'=some ⟨g,0,none⟩:=by
 have hs:w.ownsRow 0 e size (.slice a' n' c) n xs:=h.sat _ hm;rcases hs.2 with⟨_,rfl⟩ | ⟨g,cap,cur,hv,_⟩
 ·have:=hs.1;simp at this;subst this;simp at hx
 ·cases hv;exact⟨g,rfl⟩
section
variable {P:Program}{ops:Array Oper}{Q:Exit->Act->World->Prop}{a:Act}{rest:List Oper}{T:List Nat}{w0 w:World}{m:List aG}{dst:Option Tmp}{ty:TypeId}{pos:String}{af:Array Edge}
theorem jX{t e bytes:Nat}{z:Value}{x0:Operand}{v0:Value}(hI:Inv T w0 w m)(hT:uY P t e 1 bytes z)(h0:a.eval x0=v0)(hc:v0.cells=#[v0])
  (k:∀b w',Inv T w0 w' (bf e 1 (.slice (some ⟨b,0,none⟩) 1 1) 1 [v0]::m)->wpList P ops Q rest (a.put dst (.slice (some ⟨b,0,none⟩) 1 1)) w'):
  wpList P ops Q (⟨dst,.buildSlice t 1 #[(0,x0)],ty,pos,af,none⟩::rest) a w:=
 gJ hI hT DC DC (by simp[Instr.fill,h0,hc,show Array.range 1=#[0]from by decide]) (by rfl) k
theorem Bb{t e bytes:Nat}{z:Value}{x0 x1 x2 x3:Operand}{v0 v1 v2 v3:Value}(hI:Inv T w0 w m)(hT:uY P t e 1 bytes z)(h0:a.eval x0=v0)(h1:a.eval x1=v1)(h2:a.eval x2=v2)(h3:a.eval x3=v3)
  (c0:v0.cells=#[v0]) (c1:v1.cells=#[v1]) (c2:v2.cells=#[v2]) (c3:v3.cells=#[v3])
  (k:∀b w',Inv T w0 w' (bf e 1 (.slice (some ⟨b,0,none⟩) 4 4) 4 [v0,v1,v2,v3]::m)->wpList P ops Q rest (a.put dst (.slice (some ⟨b,0,none⟩) 4 4)) w'):
  wpList P ops Q (⟨dst,.buildSlice t 4 #[(0,x0),(1,x1),(2,x2),(3,x3)],ty,pos,af,none⟩::rest) a w:=
 gJ hI hT DC DC (by simp[Instr.fill,h0,h1,h2,h3,c0,c1,c2,c3,show Array.range 4=#[0,1,2,3]from by decide]) (by rfl) k
theorem Bc{t e bytes:Nat}{z:Value}{x0 x1:Operand}{v0 v1:Value}(hI:Inv T w0 w m)(hT:uY P t e 1 bytes z)(h0:a.eval x0=v0)(h1:a.eval x1=v1)
  (c0:v0.cells=#[v0]) (c1:v1.cells=#[v1])
  (k:∀b w',Inv T w0 w' (bf e 1 (.slice (some ⟨b,0,none⟩) 2 2) 2 [v0,v1]::m)->wpList P ops Q rest (a.put dst (.slice (some ⟨b,0,none⟩) 2 2)) w'):
  wpList P ops Q (⟨dst,.buildSlice t 2 #[(0,x0),(1,x1)],ty,pos,af,none⟩::rest) a w:=
 gJ hI hT DC DC (by simp[Instr.fill,h0,h1,c0,c1,show Array.range 2=#[0,1]from by decide]) (by rfl) k
theorem jY{t e bytes:Nat}{z:Value}{x0:Operand}{ao:Option Addr}{n c:Nat}(hI:Inv T w0 w m)(hT:uY P t e 1 bytes z)(h0:a.eval x0=.slice ao n c)
  (k:∀b w',Inv T w0 w' (bf e 1 (.slice (some ⟨b,0,none⟩) 1 1) 1 [.slice ao n c]::m)->wpList P ops Q rest (a.put dst (.slice (some ⟨b,0,none⟩) 1 1)) w'):
  wpList P ops Q (⟨dst,.buildSlice t 1 #[(0,x0)],ty,pos,af,none⟩::rest) a w:=jX hI hT h0 rfl k
theorem Bd{t e bytes:Nat}{z:Value}{kd:IntKind}{x0 x1 x2 x3:Operand}{v0 v1 v2 v3:Int}(hI:Inv T w0 w m)(hT:uY P t e 1 bytes z)(h0:a.eval x0=.int kd v0)(h1:a.eval x1=.int kd v1)(h2:a.eval x2=.int kd v2)(h3:a.eval x3=.int kd v3)
  (k:∀b w',Inv T w0 w' (bf e 1 (.slice (some ⟨b,0,none⟩) 4 4) 4 [.int kd v0,.int kd v1,.int kd v2,.int kd v3]::m)->wpList P ops Q rest (a.put dst (.slice (some ⟨b,0,none⟩) 4 4)) w'):
  wpList P ops Q (⟨dst,.buildSlice t 4 #[(0,x0),(1,x1),(2,x2),(3,x3)],ty,pos,af,none⟩::rest) a w:=Bb hI hT h0 h1 h2 h3 rfl rfl rfl rfl k
theorem Be{t e bytes:Nat}{z:Value}{kd:IntKind}{x0 x1:Operand}{v0 v1:Int}(hI:Inv T w0 w m)(hT:uY P t e 1 bytes z)(h0:a.eval x0=.int kd v0)(h1:a.eval x1=.int kd v1)
  (k:∀b w',Inv T w0 w' (bf e 1 (.slice (some ⟨b,0,none⟩) 2 2) 2 [.int kd v0,.int kd v1]::m)->wpList P ops Q rest (a.put dst (.slice (some ⟨b,0,none⟩) 2 2)) w'):
  wpList P ops Q (⟨dst,.buildSlice t 2 #[(0,x0),(1,x1)],ty,pos,af,none⟩::rest) a w:=Bc hI hT h0 h1 rfl rfl k
end
section
variable {P:Program}{ops:Array Oper}{Q:Exit->Act->World->Prop}{a:Act}{rest:List Oper}{T:List Nat}{w0 w:World}{m m':List aG}{dst:Option Tmp}{ty:TypeId}{pos:String}{af:Array Edge}
theorem nR{e size n n' c g off:Nat}{xs:List Value}(h:w.ownsRow 0 e size (.slice (some ⟨g,off,none⟩) n' c) n xs):off=0∧n'=n∧∃cur:List Value,w.heap[g]? =some (.cells cur.toArray e (0,0))∧n<=c∧c<=maxLen∧cur.length=c*size∧xs.length=n*size∧cur.take (n*size)=xs:=by
 rcases h.2 with⟨hv,_⟩ | ⟨g',cap,cur,hv,_,hg,h1,h2,h3,h4⟩
 ·cases hv
 ·simp only[Value.slice.injEq,Option.some.injEq,Addr.mk.injEq]at hv
  obtain⟨⟨rfl,rfl,_⟩,rfl,rfl⟩:=hv;exact⟨rfl,rfl,cur.toList,by simpa using hg,h1,h2,by simpa using h3,h.1,h4⟩
theorem G8{x:Operand}{t k g g0 off n c:Nat}{e size:Nat}{xs vs:List Value}{gd:Option (Nat×Bool)}(hI:Inv T w0 w m)(hx:a.eval x=.pointer (some ⟨g,off,none⟩))(hm:bf e size (.slice (some ⟨g,g0,none⟩) n c) n xs∈m)(hT:fw P t k)(hl:off+k<=xs.length)(hv:(xs.drop off).take k=vs):
  fP P ⟨dst,.load t x,ty,pos,af,gd⟩ a w (.agg vs.toArray):=by
 obtain⟨_,_,cur,hb,h1,h2,h3,h4,h5⟩:=nR (hI.sat _ hm);have hle:xs.length<=cur.length:=by rw[<-h5,List.length_take];exact Nat.min_le_right _ _
 unfold fP execOp;simp only[hx,Instr.loadAt,Instr.sureAddr,Sem.run_bind,Sem.run_pure,Result.andThen_ok,g_ hT hb off OM];have:(cur.drop off).take k=vs:=by
  rw[<-hv,<-h5,List.drop_take,List.take_take,Nat.min_eq_left OM]
 rw[this]
theorem yE{x:Operand}{t g g0 off n c:Nat}{e size:Nat}{xs:List Value}{v:Value}{gd:Option (Nat×Bool)}(hI:Inv T w0 w m)(hx:a.eval x=.pointer (some ⟨g,off,none⟩))(hm:bf e size (.slice (some ⟨g,g0,none⟩) n c) n xs∈m)(hT:jg P t)(hv:xs[off]? =some v):
  fP P ⟨dst,.load t x,ty,pos,af,gd⟩ a w v:=by
 obtain⟨_,_,cur,hb,h1,h2,h3,h4,h5⟩:=nR (hI.sat _ hm);have hc:cur[off]? =some v:=by
  rw[<-h5,List.getElem?_take]at hv
  split at hv
  ·exact hv
  ·cases hv
 unfold fP execOp;simp only[hx,Instr.loadAt,Instr.sureAddr,Sem.run_bind,Sem.run_pure,Result.andThen_ok,gI hT hb off hc]
theorem fU{x:Operand}{t k g g0 off n c:Nat}{e size:Nat}{xs vs:List Value}(hI:Inv T w0 w m)(hx:a.eval x=.pointer (some ⟨g,off,none⟩))(hm:bf e size (.slice (some ⟨g,g0,none⟩) n c) n xs∈m)(hT:fw P t k)(hl:off+k<=xs.length)(hv:(xs.drop off).take k=vs)
  (K:wpList P ops Q rest (a.put dst (.agg vs.toArray)) w):wpList P ops Q (⟨dst,.load t x,ty,pos,af,none⟩::rest) a w:=au (G8 hI hx hm hT hl hv) K
theorem aJ{x:Operand}{t g g0 off n c:Nat}{e size:Nat}{xs:List Value}{v:Value}(hI:Inv T w0 w m)(hx:a.eval x=.pointer (some ⟨g,off,none⟩))(hm:bf e size (.slice (some ⟨g,g0,none⟩) n c) n xs∈m)(hT:jg P t)(hv:xs[off]? =some v)
  (K:wpList P ops Q rest (a.put dst v) w):wpList P ops Q (⟨dst,.load t x,ty,pos,af,none⟩::rest) a w:=au (yE hI hx hm hT hv) K
theorem Aw{x:Operand}{t n b off:Nat}{e:TypeId}{zs vs:List Int}{gd:Option (Nat×Bool)}(hI:Inv T w0 w m)(hx:a.eval x=.pointer (some ⟨b,off,none⟩))(hm:ib b e zs∈m)(hT:fw P t n)(hl:off+n<=zs.length)(hv:sub zs off n=vs):
  fP P ⟨dst,.load t x,ty,pos,af,gd⟩ a w (ia vs):=by
 have h:=yx (dst:=dst) (ty:=ty) (pos:=pos) (af:=af) (g:=gd) hI hx hm hT (by simpa using hl);have e:(((zs.map (Value.int .i64)).drop off).take n)=vs.map (Value.int .i64):=by rw[<-hv];simp[sub,List.map_take,List.map_drop]
 rw[e]at h;exact h
theorem kG{x:Operand}{t b off:Nat}{e:TypeId}{zs:List Int}{v:Int}{gd:Option (Nat×Bool)}(hI:Inv T w0 w m)(hx:a.eval x=.pointer (some ⟨b,off,none⟩))(hm:ib b e zs∈m)(hT:jg P t)(hl:off<zs.length)(hv:gi zs off=v):
  fP P ⟨dst,.load t x,ty,pos,af,gd⟩ a w (.int .i64 v):=by
 refine tO hI hx hm hT ?_;rw[List.getElem?_map,List.getElem?_eq_getElem hl];simp[<-hv,gi,List.getElem?_eq_getElem hl]
end
class tK (P:Program) (t:TypeId) (e size bytes:outParam Nat) (z:outParam Value):Prop where out:uY P t e size bytes z
section
variable {P:Program}{ops:Array Oper}{Q:Exit->Act->World->Prop}{a:Act}{rest:List Oper}{T:List Nat}{w0 w:World}{m m':List aG}{dst:Option Tmp}{ty:TypeId}{pos:String}{af:Array Edge}
variable {x y x0 x1 x2:Operand}{t n b off e bytes:Nat}{z:Value}{kd:IntKind}{v0 v1 v2:Int}
theorem Ms(hI:Inv T w0 w m)[hT:tK P t e 1 bytes z](h0:a.eval x0=.int kd v0:=by exact RF)
  (k:∀b w',Inv T w0 w' (bf e 1 (.slice (some ⟨b,0,none⟩) 1 1) 1 [.int kd v0]::m)->wpList P ops Q rest (a.put dst (.slice (some ⟨b,0,none⟩) 1 1)) w'):
  wpList P ops Q (⟨dst,.buildSlice t 1 #[(0,x0)],ty,pos,af,none⟩::rest) a w:=jX hI hT.out h0 rfl k
theorem Ci(hI:Inv T w0 w m)[hT:tK P t e 1 bytes z](h0:a.eval x0=.int kd v0:=by exact RF)(h1:a.eval x1=.int kd v1:=by exact RF)
  (k:∀b w',Inv T w0 w' (bf e 1 (.slice (some ⟨b,0,none⟩) 2 2) 2 [.int kd v0,.int kd v1]::m)->wpList P ops Q rest (a.put dst (.slice (some ⟨b,0,none⟩) 2 2)) w'):
  wpList P ops Q (⟨dst,.buildSlice t 2 #[(0,x0),(1,x1)],ty,pos,af,none⟩::rest) a w:=Be hI hT.out h0 h1 k
theorem afu(hI:Inv T w0 w m)[hT:tK P t e 1 bytes z](h0:a.eval x0=.int kd v0:=by exact RF)(h1:a.eval x1=.int kd v1:=by exact RF)(h2:a.eval x2=.int kd v2:=by exact RF)
  (k:∀b w',Inv T w0 w' (bf e 1 (.slice (some ⟨b,0,none⟩) 3 3) 3 [.int kd v0,.int kd v1,.int kd v2]::m)->wpList P ops Q rest (a.put dst (.slice (some ⟨b,0,none⟩) 3 3)) w'):
  wpList P ops Q (⟨dst,.buildSlice t 3 #[(0,x0),(1,x1),(2,x2)],ty,pos,af,none⟩::rest) a w:=
 gJ hI hT.out DC DC (cs:=[.int kd v0,.int kd v1,.int kd v2]) (by simp[Instr.fill,h0,h1,h2,Value.cells,show Array.range 3=#[0,1,2]from by decide]) (by rfl) k
end
section
variable {P:Program}{a:Act}{T:List Nat}{w0 w:World}{m:List aG}{dst:Option Tmp}{ty:TypeId}{pos:String}{af:Array Edge}
variable {x:Operand}{t n b off:Nat}{e:TypeId}{zs:List Int}{cs:List Value}{v:Value}
theorem acG(hI:Inv T w0 w m)(hx:a.eval x=.pointer (some ⟨b,0,none⟩):=by exact RF)(hm:ib b e zs∈m:=by exact MM)[hT:bG P t n]
  (hl:zs.length=n:=by exact LN):fP P ⟨dst,.load t x,ty,pos,af,none⟩ a w (ia zs):=
 Aw hI hx hm hT.out OM (by subst hl;simp[sub])
theorem ahB(hI:Inv T w0 w m)(hx:a.eval x=.pointer (some ⟨b,off,none⟩):=by exact RF)(hm:ib b e zs∈m:=by exact MM)[hT:bG P t n]
  (hl:off+n<=zs.length:=by exact LN):fP P ⟨dst,.load t x,ty,pos,af,none⟩ a w (ia (sub zs off n)):=
 Aw hI hx hm hT.out hl rfl
theorem Mt(hI:Inv T w0 w m)(hx:a.eval x=.pointer (some ⟨b,off,none⟩):=by exact RF)(hm:ib b e zs∈m:=by exact MM)[hT:aO P t]
  (hl:off<zs.length:=by exact LN):fP P ⟨dst,.load t x,ty,pos,af,none⟩ a w (.int .i64 (gi zs off)):=
 kG hI hx hm hT.out hl rfl
theorem acH(hI:Inv T w0 w m)(hx:a.eval x=.pointer (some ⟨b,off,none⟩):=by exact RF)(hm:blk b e cs∈m:=by exact MM)[hT:aO P t]
  (hv:cs[off]? =some v:=by exact RF):fP P ⟨dst,.load t x,ty,pos,af,none⟩ a w v:=
 tO hI hx hm hT.out hv
end
class dQ (P:Program) (t i:Nat) (o q:outParam Nat):Prop where out:Ba P t i o q
class sD (P:Program) (t:Nat):Prop where out:G7 P t
inductive kg:Value->List Int->Prop
 |i (k:Int):kg (.int .i64 k) [k]
 |a (zs:List Int):kg (ia zs) zs
theorem kg.cells{v:Value}{zs:List Int}(h:kg v zs):v.cells=(zs.map (Value.int .i64)).toArray:=by cases h<;>rfl
inductive xA (P:Program) (a:Act) (t n:Nat):List (Nat×Operand)->List (Nat×List Int)->Prop
 |nil:xA P a t n [] []
 |cons {i:Nat} {x:Operand} {o q:Nat} {vs:List Int} {ps:List (Nat×Operand)} {l:List (Nat×List Int)} (h1:kg (a.eval x) vs) [h2:dQ P t i o q] (h3:vs.length=q) (h4:o+q<=n) (h:xA P a t n ps l):xA P a t n ((i,x)::ps) ((o,vs)::l)
theorem xB:∀(l:List (Nat×List Int)) (zs:List Int),Cc (zs.map (Value.int .i64)) (l.map λp=>(p.1,p.2.map (Value.int .i64)))=(av zs l).map (Value.int .i64)
 | [],_=>rfl
 | (o,vs)::l,zs=>by
  simp only[List.map_cons,Cc,av,uV];exact xB l _
theorem xA.toC{P:Program}{a:Act}{t n:Nat}:∀ {ps:List (Nat×Operand)} {l:List (Nat×List Int)},xA P a t n ps l->Ce P a t n ps (l.map λp=>(p.1,p.2.map (Value.int .i64)))
 |_,_,.nil=>trivial
 |_,_,.cons (h2:=h2) h1 h3 h4 h=>⟨h1.cells,by rw[List.length_map,h3];exact h2.out,by rw[List.length_map,h3];exact h4,h.toC⟩
section
variable {P:Program}{ops:Array Oper}{Q:Exit->Act->World->Prop}{a:Act}{rest:List Oper}{w:World}{dst:Option Tmp}{ty:TypeId}{pos:String}{af:Array Edge}
theorem TK{t n:Nat}{ps:List (Nat×Operand)}{l:List (Nat×List Int)}[hz:wW P t n][hS:sD P t](hp:xA P a t n ps l)
  (k:wpList P ops Q rest (a.put dst (ia (av (aj n) l))) w):wpList P ops Q (⟨dst,.build t ps.toArray,ty,pos,af,none⟩::rest) a w:=
 ik (z:=ia (aj n)) (zc:=(aj n).map (Value.int .i64)) _ hz.out rfl (by rw[List.length_map,aa]) hS.out hp.toC (by rw[xB];exact k)
theorem ahC{t n i1 o1 q1:Nat}{x1:Operand}{v1:List Int}[hz:wW P t n][hS:sD P t][f1:dQ P t i1 o1 q1]
  (h1:kg (a.eval x1) v1:=by exact IS) (l1:v1.length=q1:=by exact LA) (b1:o1+q1<=n:=by exact WD)
  (k:wpList P ops Q rest (a.put dst (ia (av (aj n) [(o1,v1)]))) w):wpList P ops Q (⟨dst,.build t #[(i1,x1)],ty,pos,af,none⟩::rest) a w:=
 TK (ps:=[(i1,x1)]) (l:=[(o1,v1)]) (.cons h1 l1 b1 (.nil)) k
theorem ahD{t n i1 i2 o1 o2 q1 q2:Nat}{x1 x2:Operand}{v1 v2:List Int}[hz:wW P t n][hS:sD P t][f1:dQ P t i1 o1 q1][f2:dQ P t i2 o2 q2]
  (h1:kg (a.eval x1) v1:=by exact IS) (l1:v1.length=q1:=by exact LA) (b1:o1+q1<=n:=by exact WD)
  (h2:kg (a.eval x2) v2:=by exact IS) (l2:v2.length=q2:=by exact LA) (b2:o2+q2<=n:=by exact WD)
  (k:wpList P ops Q rest (a.put dst (ia (av (aj n) [(o1,v1),(o2,v2)]))) w):wpList P ops Q (⟨dst,.build t #[(i1,x1),(i2,x2)],ty,pos,af,none⟩::rest) a w:=
 TK (ps:=[(i1,x1),(i2,x2)]) (l:=[(o1,v1),(o2,v2)]) (.cons h1 l1 b1 (.cons h2 l2 b2 (.nil))) k
theorem ahE{t n i1 i2 i3 o1 o2 o3 q1 q2 q3:Nat}{x1 x2 x3:Operand}{v1 v2 v3:List Int}[hz:wW P t n][hS:sD P t][f1:dQ P t i1 o1 q1][f2:dQ P t i2 o2 q2][f3:dQ P t i3 o3 q3]
  (h1:kg (a.eval x1) v1:=by exact IS) (l1:v1.length=q1:=by exact LA) (b1:o1+q1<=n:=by exact WD)
  (h2:kg (a.eval x2) v2:=by exact IS) (l2:v2.length=q2:=by exact LA) (b2:o2+q2<=n:=by exact WD)
  (h3:kg (a.eval x3) v3:=by exact IS) (l3:v3.length=q3:=by exact LA) (b3:o3+q3<=n:=by exact WD)
  (k:wpList P ops Q rest (a.put dst (ia (av (aj n) [(o1,v1),(o2,v2),(o3,v3)]))) w):wpList P ops Q (⟨dst,.build t #[(i1,x1),(i2,x2),(i3,x3)],ty,pos,af,none⟩::rest) a w:=
 TK (ps:=[(i1,x1),(i2,x2),(i3,x3)]) (l:=[(o1,v1),(o2,v2),(o3,v3)]) (.cons h1 l1 b1 (.cons h2 l2 b2 (.cons h3 l3 b3 (.nil)))) k
theorem ahF{t n i1 i2 i3 i4 o1 o2 o3 o4 q1 q2 q3 q4:Nat}{x1 x2 x3 x4:Operand}{v1 v2 v3 v4:List Int}[hz:wW P t n][hS:sD P t][f1:dQ P t i1 o1 q1][f2:dQ P t i2 o2 q2][f3:dQ P t i3 o3 q3][f4:dQ P t i4 o4 q4]
  (h1:kg (a.eval x1) v1:=by exact IS) (l1:v1.length=q1:=by exact LA) (b1:o1+q1<=n:=by exact WD)
  (h2:kg (a.eval x2) v2:=by exact IS) (l2:v2.length=q2:=by exact LA) (b2:o2+q2<=n:=by exact WD)
  (h3:kg (a.eval x3) v3:=by exact IS) (l3:v3.length=q3:=by exact LA) (b3:o3+q3<=n:=by exact WD)
  (h4:kg (a.eval x4) v4:=by exact IS) (l4:v4.length=q4:=by exact LA) (b4:o4+q4<=n:=by exact WD)
  (k:wpList P ops Q rest (a.put dst (ia (av (aj n) [(o1,v1),(o2,v2),(o3,v3),(o4,v4)]))) w):wpList P ops Q (⟨dst,.build t #[(i1,x1),(i2,x2),(i3,x3),(i4,x4)],ty,pos,af,none⟩::rest) a w:=
 TK (ps:=[(i1,x1),(i2,x2),(i3,x3),(i4,x4)]) (l:=[(o1,v1),(o2,v2),(o3,v3),(o4,v4)]) (.cons h1 l1 b1 (.cons h2 l2 b2 (.cons h3 l3 b3 (.cons h4 l4 b4 (.nil))))) k
theorem ahG{t n i1 i2 i3 i4 i5 o1 o2 o3 o4 o5 q1 q2 q3 q4 q5:Nat}{x1 x2 x3 x4 x5:Operand}{v1 v2 v3 v4 v5:List Int}[hz:wW P t n][hS:sD P t][f1:dQ P t i1 o1 q1][f2:dQ P t i2 o2 q2][f3:dQ P t i3 o3 q3][f4:dQ P t i4 o4 q4][f5:dQ P t i5 o5 q5]
  (h1:kg (a.eval x1) v1:=by exact IS) (l1:v1.length=q1:=by exact LA) (b1:o1+q1<=n:=by exact WD)
  (h2:kg (a.eval x2) v2:=by exact IS) (l2:v2.length=q2:=by exact LA) (b2:o2+q2<=n:=by exact WD)
  (h3:kg (a.eval x3) v3:=by exact IS) (l3:v3.length=q3:=by exact LA) (b3:o3+q3<=n:=by exact WD)
  (h4:kg (a.eval x4) v4:=by exact IS) (l4:v4.length=q4:=by exact LA) (b4:o4+q4<=n:=by exact WD)
  (h5:kg (a.eval x5) v5:=by exact IS) (l5:v5.length=q5:=by exact LA) (b5:o5+q5<=n:=by exact WD)
  (k:wpList P ops Q rest (a.put dst (ia (av (aj n) [(o1,v1),(o2,v2),(o3,v3),(o4,v4),(o5,v5)]))) w):wpList P ops Q (⟨dst,.build t #[(i1,x1),(i2,x2),(i3,x3),(i4,x4),(i5,x5)],ty,pos,af,none⟩::rest) a w:=
 TK (ps:=[(i1,x1),(i2,x2),(i3,x3),(i4,x4),(i5,x5)]) (l:=[(o1,v1),(o2,v2),(o3,v3),(o4,v4),(o5,v5)]) (.cons h1 l1 b1 (.cons h2 l2 b2 (.cons h3 l3 b3 (.cons h4 l4 b4 (.cons h5 l5 b5 (.nil)))))) k
end
theorem eH{a b:Bool}(h:a=b):Ending.returned (.bool a)=.returned (.bool b):=by rw[h]
theorem YJ{k:IntKind}{a b:Int}(h:a=b):Ending.returned (.int k a)=.returned (.int k b):=by rw[h]
theorem Yt{w0 w:World}(h:Below w0.heap.size w0 w)(o:Obj):Below w0.heap.size w0 (w.alloc o):=h.alloc h.size o
theorem b0(w:World):Below w.heap.size w w:=Below.refl _ _
theorem bup{w0 w w1:World}(h0:Below w0.heap.size w0 w)(h:Below w.heap.size w w1):Below w0.heap.size w0 w1:=h0.trans (h.mono h0.size)
namespace C
theorem mixed:prog.follows .mixedOrders=true:=by kernel_rfl
theorem abU:fw prog 28 5:=⟨by kernel_rfl,by kernel_rfl⟩
theorem Fj:fw prog 37 7:=⟨by kernel_rfl,by kernel_rfl⟩
theorem gM:fw prog 38 28:=⟨by kernel_rfl,by kernel_rfl⟩
theorem afv:fw prog 39 140:=⟨by kernel_rfl,by kernel_rfl⟩
theorem wX:fw prog 41 174:=⟨by kernel_rfl,by kernel_rfl⟩
theorem nS:jg prog 3:=⟨by kernel_rfl,by kernel_rfl⟩
theorem tV:jg prog 4:=⟨by kernel_rfl,by kernel_rfl⟩
theorem ahH:fe prog 37 7:=by unfold fe;kernel_rfl
theorem afw:fe prog 38 28:=by unfold fe;kernel_rfl
theorem afx:fe prog 41 174:=by unfold fe;kernel_rfl
theorem ai2:dC prog 37:=by unfold dC;kernel_rfl
theorem ahI:dC prog 38:=by unfold dC;kernel_rfl
theorem ahJ:dC prog 41:=by unfold dC;kernel_rfl
theorem TL:A9 prog 28 5 3 1:=⟨by kernel_rfl,by kernel_rfl⟩
theorem abV:A9 prog 38 4 37 7:=⟨by kernel_rfl,by kernel_rfl⟩
theorem abW:A9 prog 39 5 38 28:=⟨by kernel_rfl,by kernel_rfl⟩
theorem flat3:Flat prog 3 1 1:=.int KF nS DC
theorem Mw:Flat prog 28 5 2:=tQ abU TL.und TL.size flat3 DC
theorem TM:Flat prog 37 7 3:=kT (l:=[(false,0,3),(false,1,3),(false,2,28)]) Fj KF KF KF (.cons flat3 DC (.cons flat3 DC (.cons Mw DC .nil)))
theorem xC:Flat prog 38 28 4:=tQ gM abV.und abV.size TM DC
theorem TN:Flat prog 39 140 5:=tQ afv abW.und abW.size xC DC
theorem acI:Flat prog 41 174 6:=kT (l:=[(false,0,3),(false,1,38),(false,29,28),(false,34,39)]) wX KF KF KF (.cons flat3 DC (.cons xC DC (.cons Mw DC (.cons TN DC .nil))))
theorem YK:nL prog 28 5:=⟨Mw.weak DC,by kernel_rfl⟩
theorem YM:nL prog 37 7:=⟨TM.weak DC,by kernel_rfl⟩
theorem kU:nL prog 38 28:=⟨xC.weak DC,by kernel_rfl⟩
theorem YN:nL prog 39 140:=⟨TN.weak DC,by kernel_rfl⟩
theorem O4:nL prog 41 174:=⟨acI.weak DC,by kernel_rfl⟩
end C
namespace B
theorem mixed:prog.follows .mixedOrders=true:=by kernel_rfl
theorem gM:fw prog 91 2:=⟨by kernel_rfl,by kernel_rfl⟩
theorem Cj:fw prog 48 3:=⟨by kernel_rfl,by kernel_rfl⟩
theorem wY:fw prog 93 8:=⟨by kernel_rfl,by kernel_rfl⟩
theorem nS:jg prog 3:=⟨by kernel_rfl,by kernel_rfl⟩
theorem tV:jg prog 4:=⟨by kernel_rfl,by kernel_rfl⟩
theorem Mx:(prog.info? 91).map (·.zero)=some (some (.agg #[.int .i64 0,.int .i64 0])):=by kernel_rfl
theorem MB:(prog.info? 93).map (·.zero)=some (some (.agg #[.int .i64 0,.int .i64 0,.int .i64 0,.int .i64 0,.int .i64 0,.int .i64 0,.int .i64 0,.int .i64 0])):=by kernel_rfl
theorem flat3:Flat prog 3 1 1:=.int KF nS DC
theorem xC:Flat prog 91 2 2:=kT (l:=[(false,0,3),(false,1,3)]) gM KF KF KF (.cons flat3 DC (.cons flat3 DC .nil))
theorem TP:Flat prog 48 3 2:=kT (l:=[(false,0,3),(false,1,3),(false,2,3)]) Cj KF KF KF (.cons flat3 DC (.cons flat3 DC (.cons flat3 DC .nil)))
theorem acJ:Flat prog 93 8 3:=kT (l:=[(false,0,3),(false,1,91),(false,3,91),(false,5,48)]) wY KF KF KF (.cons flat3 DC (.cons xC DC (.cons xC DC (.cons TP DC .nil))))
theorem kU:nL prog 91 2:=⟨xC.weak DC,by kernel_rfl⟩
theorem YO:nL prog 48 3:=⟨TP.weak DC,by kernel_rfl⟩
theorem YP:nL prog 93 8:=⟨acJ.weak DC,by kernel_rfl⟩
theorem mX:fw prog 30 7:=⟨by kernel_rfl,by kernel_rfl⟩
theorem abX:fw prog 28 5:=⟨by kernel_rfl,by kernel_rfl⟩
theorem abY:A9 prog 28 5 3 1:=⟨by kernel_rfl,by kernel_rfl⟩
theorem TQ:Flat prog 28 5 2:=tQ abX abY.und abY.size flat3 DC
theorem acK:Flat prog 30 7 3:=kT (l:=[(false,0,3),(false,1,3),(false,2,28)]) mX KF KF KF (.cons flat3 DC (.cons flat3 DC (.cons TQ DC .nil)))
theorem YQ:nL prog 28 5:=⟨TQ.weak DC,by kernel_rfl⟩
theorem YR:nL prog 30 7:=⟨acK.weak DC,by kernel_rfl⟩
end B
