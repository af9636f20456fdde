/- Contracts of functions. No condition. -/
import Derived.Test.YtdakkaapokhnnaaGreatDoorZ15
import Derived.Test.YtdakkaapokhnnaaGreatDoorZ16
import Derived.Test.YtdakkaapokhnnaaGreatDoorZ17
namespace Go.Proofs.YtdakkaapokhnnaaGreatDoor
open Go.RowKit Go.Proofs.Tryz
set_option maxRecDepth 100000
set_option maxHeartbeats 6400000
set_option linter.all false
theorem afC(ks i):gi (nn ks) i=((ks.getD i 0:Nat):Int):=by
 grind[gi,nn]
theorem afD{ks}(h:∀k∈ks,k<9223372036854775808)(i):-9223372036854775808<=gi (nn ks) i∧gi (nn ks) i<=9223372036854775807:=by
 rw[afC];have:ks.getD i 0<9223372036854775808:=by
  rw[List.getD_eq_getElem?_getD];rcases hk:ks[i]? with _|k
  ·simp
  ·exact h k (List.mem_of_getElem? hk)
 omega
def mX(r:List Int):Prop:=r.length=174∧C.jm r=true∧(∀i,-9223372036854775808<=gi r i∧gi r i<=9223372036854775807)∧∀i,0<=gi r i
def FP(v:List Int):Prop:=v.length=7∧ll v=true∧(∀i,-9223372036854775808<=gi v i∧gi v i<=9223372036854775807)∧∀i,0<=gi v i
def rT(n:Nat)(b:List Int):Prop:=b.length=n∧(∀i,-9223372036854775808<=gi b i∧gi b i<=9223372036854775807)∧∀i,0<=gi b i
def mK(n:Int):Prop:=0<=n∧n<=9223372036854775807
def gQ.Ok:gQ->Prop
 | .row w r=>w<5∧mX r
 | .kept n=>mK n
 | .news w r=>w<5∧mX r
 | .ask e b=>mK e∧rT 2 b
 | .promise e b h c=>mK e∧rT 2 b∧rT 2 h∧rT 3 c
 | .put e b c=>mK e∧rT 2 b∧rT 3 c
 | .taken e b=>mK e∧rT 2 b
 | .view v=>FP v
 | .aZ w v=>w<5∧FP v
 | .d_ w r=>w<5∧mX r
def Rec.Ok:Rec->Prop
 | .row r=>mX r
 | .cz w r=>w<5∧mX r
 | .aZ w=>w<5
 | .qH e b=>mK e∧rT 2 b
 | .take e b c=>mK e∧rT 2 b∧rT 3 c
 | .view v=>FP v
theorem gQ.Ok.len{M:gQ}(h:M.Ok):M.Len:=by
 cases M with
 |row w r=>exact⟨h.1,h.2.1⟩
 |kept n=>trivial
 |news w r=>exact⟨h.1,h.2.1⟩
 |ask e b=>exact h.2.1
 |promise e b h1 c=>exact⟨h.2.1.1,h.2.2.1.1,h.2.2.2.1⟩
 |put e b c=>exact⟨h.2.1.1,h.2.2.1⟩
 |taken e b=>exact h.2.1
 |view v=>exact h.1
 |aZ w v=>exact⟨h.1,h.2.1⟩
 |d_ w r=>exact⟨h.1,h.2.1⟩
theorem Rec.Ok.len{x:Rec}(h:x.Ok):x.Len:=by
 cases x with
 |row r=>exact h.1
 |cz w r=>exact⟨h.1,h.2.1⟩
 |aZ w=>exact h
 |qH e b=>exact h.2.1
 |take e b c=>exact⟨h.2.1.1,h.2.2.1⟩
 |view v=>exact h.1
def pE{α:Type}(x:α)(b:Bool)(cs:List UInt8):Option α:=if b=true∧cs=[]then some x else none
def nI(bs:List UInt8):Option Rec:=
 (iI 6 bs).bind λp=>match p.1 with
 |0=>(jl p.2).bind λ(x1,c1)=>pE (.row (nn x1)) (C.jm (nn x1)) c1
 |1=>(iI 5 p.2).bind λ(x1,c1)=>(jl c1).bind λ(x2,c2)=>pE (.cz x1 (nn x2)) (C.jm (nn x2)) c2
 |2=>(iI 5 p.2).bind λ(x1,c1)=>pE (.aZ x1) true c1
 |3=>(f_ p.2).bind λ(x1,c1)=>(bJ dI c1).bind λ(x2,c2)=>pE (.qH ((x1:Nat):Int) (nn x2)) true c2
 |4=>(f_ p.2).bind λ(x1,c1)=>(bJ dI c1).bind λ(x2,c2)=>(bJ jF c2).bind λ(x3,c3)=>pE (.take ((x1:Nat):Int) (nn x2) (nn x3)) true c3
 |5=>(bJ ko p.2).bind λ(x1,c1)=>pE (.view (nn x1)) (ll (nn x1)) c1
 |_=>none
def lZ(bs:List UInt8):Option gQ:=
 (iI 10 bs).bind λp=>match p.1 with
 |0=>(iI 5 p.2).bind λ(x1,c1)=>(jl c1).bind λ(x2,c2)=>pE (.row x1 (nn x2)) (C.jm (nn x2)) c2
 |1=>(f_ p.2).bind λ(x1,c1)=>pE (.kept ((x1:Nat):Int)) true c1
 |2=>(iI 5 p.2).bind λ(x1,c1)=>(jl c1).bind λ(x2,c2)=>pE (.news x1 (nn x2)) (C.jm (nn x2)) c2
 |3=>(f_ p.2).bind λ(x1,c1)=>(bJ dI c1).bind λ(x2,c2)=>pE (.ask ((x1:Nat):Int) (nn x2)) true c2
 |4=>(f_ p.2).bind λ(x1,c1)=>(bJ dI c1).bind λ(x2,c2)=>(bJ dI c2).bind λ(x3,c3)=>(bJ jF c3).bind λ(x4,c4)=>pE (.promise ((x1:Nat):Int) (nn x2) (nn x3) (nn x4)) true c4
 |5=>(f_ p.2).bind λ(x1,c1)=>(bJ dI c1).bind λ(x2,c2)=>(bJ jF c2).bind λ(x3,c3)=>pE (.put ((x1:Nat):Int) (nn x2) (nn x3)) true c3
 |6=>(f_ p.2).bind λ(x1,c1)=>(bJ dI c1).bind λ(x2,c2)=>pE (.taken ((x1:Nat):Int) (nn x2)) true c2
 |7=>(bJ ko p.2).bind λ(x1,c1)=>pE (.view (nn x1)) (ll (nn x1)) c1
 |8=>(iI 5 p.2).bind λ(x1,c1)=>(bJ ko c1).bind λ(x2,c2)=>pE (.aZ x1 (nn x2)) (ll (nn x2)) c2
 |9=>(iI 5 p.2).bind λ(x1,c1)=>(jl c1).bind λ(x2,c2)=>pE (.d_ x1 (nn x2)) (C.jm (nn x2)) c2
 |_=>none
theorem rU{bs cs k}(h:f_ bs=some (k,cs)):mK ((k:Nat):Int):=by have:=Ky h;constructor<;>omega
theorem aab(ks i):0<=gi (nn ks) i:=by grind[afC]
theorem j_{ls}(hl:∀l∈ls,l<=9223372036854775808){bs cs ns}(h:bJ ls bs=some (ns,cs)):rT ls.length (nn ns):=⟨by grind[dE,eF],afD (Ap hl h),aab ns⟩
theorem pO:∀l∈dI,l<=9223372036854775808:=by decide
theorem Bz:∀l∈jF,l<=9223372036854775808:=by decide
theorem adN:∀l∈ko,l<=9223372036854775808:=by decide
theorem Ty{n bs cs x}(h:v_ n bs=some (x,cs)):∀k∈x,k<9223372036854775808:=
 Ap (ls:=List.replicate n GX) (λl hl=>by rw[(List.mem_replicate.1 hl).2];decide) h
theorem Nl:∀ {n bs cs x y},mF n bs=some ((x,y),cs)->(∀k∈x,k<9223372036854775808)∧∀k∈y,k<9223372036854775808
 |0,bs,cs,x,y,h=>by
  grind[mF]
 |n+1,bs,cs,x,y,h=>by
  obtain⟨⟨k,c⟩,h1,h⟩:=Option.bind_eq_some_iff.1 h;obtain⟨⟨q,c2⟩,h2,h⟩:=Option.bind_eq_some_iff.1 h;obtain⟨⟨⟨r1,r2⟩,c3⟩,h3,h⟩:=Option.map_eq_some_iff.1 h;obtain⟨h4,h5⟩:=Nl h3
  grind[Ky,Ty]
theorem adO{bs cs x}(h:jl bs=some (x,cs)):∀k∈x,k<9223372036854775808:=by
 grind[jl,Option.bind_eq_some_iff,Option.map_eq_some_iff,Nl,Ky,Ty]
theorem w_{bs cs ns}(h:jl bs=some (ns,cs))(hb:C.jm (nn ns)=true):mX (nn ns):=⟨by grind[dE,lM],hb,afD (adO h),aab ns⟩
theorem BA{bs cs ns}(h:bJ ko bs=some (ns,cs))(hb:ll (nn ns)=true):FP (nn ns):=
 have h1:=j_ adN h
 ⟨h1.1,hb,h1.2.1,h1.2.2⟩
theorem IL(bs):(si bs=none∧nI bs=none)∨∃x b cs,si bs=some ((x.nX,b),cs)∧nI bs=pE x b cs∧(b=true->x.Ok):=by
 unfold si nI;rcases h0:iI 6 bs with _| ⟨k,c⟩
 ·grind
 ·simp only[Option.bind_some]
  match k with
  |0=>
   rcases h1:jl c with _| ⟨x1,c1⟩
   ·grind
   ·exact .inr ⟨.row (nn x1),_,c1,rfl,rfl,λhb=>w_ h1 hb⟩
  |1=>
   rcases h1:iI 5 c with _| ⟨x1,c1⟩
   ·grind
   ·simp only[Option.bind_some]
    rcases h2:jl c1 with _| ⟨x2,c2⟩
    ·grind
    ·exact .inr ⟨.cz x1 (nn x2),_,c2,rfl,rfl,λhb=>⟨tL h1,w_ h2 hb⟩⟩
  |2=>
   rcases h1:iI 5 c with _| ⟨x1,c1⟩
   ·grind
   ·exact .inr ⟨.aZ x1,_,c1,rfl,rfl,λ_=>tL h1⟩
  |3=>
   rcases h1:f_ c with _| ⟨x1,c1⟩
   ·grind
   ·simp only[Option.bind_some]
    rcases h2:bJ dI c1 with _| ⟨x2,c2⟩
    ·grind
    ·exact .inr ⟨.qH ((x1:Nat):Int) (nn x2),_,c2,rfl,rfl,λ_=>⟨rU h1,j_ pO h2⟩⟩
  |4=>
   rcases h1:f_ c with _| ⟨x1,c1⟩
   ·grind
   ·simp only[Option.bind_some]
    rcases h2:bJ dI c1 with _| ⟨x2,c2⟩
    ·grind
    ·simp only[Option.bind_some]
     rcases h3:bJ jF c2 with _| ⟨x3,c3⟩
     ·grind
     ·exact .inr ⟨.take ((x1:Nat):Int) (nn x2) (nn x3),_,c3,rfl,rfl,λ_=>⟨rU h1,j_ pO h2,j_ Bz h3⟩⟩
  |5=>
   rcases h1:bJ ko c with _| ⟨x1,c1⟩
   ·grind
   ·exact .inr ⟨.view (nn x1),_,c1,rfl,rfl,λhb=>BA h1 hb⟩
  |k+6=>grind
theorem IM(bs):(om bs=none∧lZ bs=none)∨∃x b cs,om bs=some ((x.nX,b),cs)∧lZ bs=pE x b cs∧(b=true->x.Ok):=by
 unfold om lZ;rcases h0:iI 10 bs with _| ⟨k,c⟩
 ·grind
 ·simp only[Option.bind_some]
  match k with
  |0=>
   simp only;rcases h1:iI 5 c with _| ⟨x1,c1⟩
   ·grind
   ·simp only[Option.bind_some]
    rcases h2:jl c1 with _| ⟨x2,c2⟩
    ·grind
    ·exact .inr ⟨.row x1 (nn x2),_,c2,rfl,rfl,λhb=>⟨tL h1,w_ h2 hb⟩⟩
  |1=>
   simp only;rcases h1:f_ c with _| ⟨x1,c1⟩
   ·grind
   ·exact .inr ⟨.kept ((x1:Nat):Int),_,c1,rfl,rfl,λ_=>rU h1⟩
  |2=>
   simp only;rcases h1:iI 5 c with _| ⟨x1,c1⟩
   ·grind
   ·simp only[Option.bind_some]
    rcases h2:jl c1 with _| ⟨x2,c2⟩
    ·grind
    ·exact .inr ⟨.news x1 (nn x2),_,c2,rfl,rfl,λhb=>⟨tL h1,w_ h2 hb⟩⟩
  |3=>
   simp only;rcases h1:f_ c with _| ⟨x1,c1⟩
   ·grind
   ·simp only[Option.bind_some]
    rcases h2:bJ dI c1 with _| ⟨x2,c2⟩
    ·grind
    ·exact .inr ⟨.ask ((x1:Nat):Int) (nn x2),_,c2,rfl,rfl,λ_=>⟨rU h1,j_ pO h2⟩⟩
  |4=>
   simp only;rcases h1:f_ c with _| ⟨x1,c1⟩
   ·grind
   ·simp only[Option.bind_some]
    rcases h2:bJ dI c1 with _| ⟨x2,c2⟩
    ·grind
    ·simp only[Option.bind_some]
     rcases h3:bJ dI c2 with _| ⟨x3,c3⟩
     ·grind
     ·simp only[Option.bind_some]
      rcases h4:bJ jF c3 with _| ⟨x4,c4⟩
      ·grind
      ·exact .inr ⟨.promise ((x1:Nat):Int) (nn x2) (nn x3) (nn x4),_,c4,rfl,rfl,λ_=>⟨rU h1,j_ pO h2,j_ pO h3,j_ Bz h4⟩⟩
  |5=>
   rcases h1:f_ c with _| ⟨x1,c1⟩
   ·grind
   ·simp only[Option.bind_some]
    rcases h2:bJ dI c1 with _| ⟨x2,c2⟩
    ·grind
    ·simp only[Option.bind_some]
     rcases h3:bJ jF c2 with _| ⟨x3,c3⟩
     ·grind
     ·exact .inr ⟨.put ((x1:Nat):Int) (nn x2) (nn x3),_,c3,rfl,rfl,λ_=>⟨rU h1,j_ pO h2,j_ Bz h3⟩⟩
  |6=>
   rcases h1:f_ c with _| ⟨x1,c1⟩
   ·grind
   ·simp only[Option.bind_some]
    rcases h2:bJ dI c1 with _| ⟨x2,c2⟩
    ·grind
    ·exact .inr ⟨.taken ((x1:Nat):Int) (nn x2),_,c2,rfl,rfl,λ_=>⟨rU h1,j_ pO h2⟩⟩
  |7=>
   rcases h1:bJ ko c with _| ⟨x1,c1⟩
   ·grind
   ·exact .inr ⟨.view (nn x1),_,c1,rfl,rfl,λhb=>BA h1 hb⟩
  |8=>
   rcases h1:iI 5 c with _| ⟨x1,c1⟩
   ·grind
   ·simp only[Option.bind_some]
    rcases h2:bJ ko c1 with _| ⟨x2,c2⟩
    ·grind
    ·exact .inr ⟨.aZ x1 (nn x2),_,c2,rfl,rfl,λhb=>⟨tL h1,BA h2 hb⟩⟩
  |9=>
   rcases h1:iI 5 c with _| ⟨x1,c1⟩
   ·grind
   ·simp only[Option.bind_some]
    rcases h2:jl c1 with _| ⟨x2,c2⟩
    ·grind
    ·exact .inr ⟨.d_ x1 (nn x2),_,c2,rfl,rfl,λhb=>⟨tL h1,w_ h2 hb⟩⟩
  |k+10=>grind
theorem IP{α}{x y:α}{b cs}(h:pE x b cs=some y):y=x∧b=true∧cs=[]:=by
 grind[pE]
theorem afE(bs):Aq bs=(match nI bs with|some x=>(x.nX,0) |none=>(au 189,1)):=by
 grind[IL,Aq.eq_1,pE]
theorem aac{bs x}(h:nI bs=some x):x.Ok:=by
 rcases IL bs with⟨h1,h2⟩ | ⟨y,b,cs,h1,h2,hk⟩
 all_goals grind[IP]
theorem afF(bs):Ar bs=(match lZ bs with|some x=>(x.nX,0) |none=>(au 192,1)):=by
 grind[IM,Ar.eq_1,pE]
theorem Kz{bs x}(h:lZ bs=some x):x.Ok:=by
 rcases IM bs with⟨h1,h2⟩ | ⟨y,b,cs,h1,h2,hk⟩
 all_goals grind[IP]
section
open B (aI dw eu dC gH kM eB kF cB bK pJ)
def o8(x:Int):Prop:=-9223372036854775808<=x∧x<=9223372036854775807
def Qw(f:Nat)(S:RS):gQ->Prop
 | .row w r=>w=f∧r=S.own
 | .kept _=>True
 | .news w r=>w=f∧(r=S.own∨r=C.rowOf S.book (f:Int))
 | .ask e b=>e=gi S.view 0∧aI S.view (f:Int)=true∧∃V,S.aB=some V∧b=sub V.1 7 2
 | .promise e b h c=>e=gi S.view 0∧aI S.view (f:Int)=true∧b=sub S.acc 1 2∧h=sub S.acc 3 2∧c=sub S.acc 5 3
 | .put e b c=>e=gi S.view 0∧aI S.view (f:Int)=true∧∃V,S.aB=some V∧V.2=true∧b=sub V.1 7 2∧c=sub V.1 9 3
 | .taken e b=>e=gi S.view 0∧aI S.view (f:Int)=true∧∃c,S.acc=qB e b b c
 | .view v=>v=S.view
 | .aZ w v=>w<5∧v=S.view
 | .d_ w r=>w<5∧C.fG S.sl (w:Int)=true∧r=rowAt S.aT w
def Hr(f:Nat)(In:Nat->gQ->Prop)(S:RS)(a:Nat)(M:gQ):Prop:=In a M∨(a=f∧Qw f S M)
def gQ.WT:gQ->Option (Int×List Int)
 | .ask e b=>some (e,b)
 | .promise e b _ _=>some (e,b)
 | .put e b _=>some (e,b)
 | .taken e b=>some (e,b)
 |_=>none
def Hb(f:Nat)(In:Nat->gQ->Prop)(S:RS)(b:List Int):Prop:=∃a M,Hr f In S a M∧M.WT=some (gi S.view 0,b)
inductive Grow (f:Nat) (S:RS) (x:List Int):Prop
 |more (key xU:Nat) (n:Int):key<4->xU<7->1<=n->n<=1099511627776->C.cntF S.own key xU<=1099511627776-n->x=C.jq S.own (1+key*7+xU) n->S.busy=false->aI S.view (f:Int)=true->Grow f S x
 |come:S.busy=false->qm f S≠[]->(∀i∈qm f S,∀w∈eU i,mU S i w=true)->fP S.last S.own (qm f S)=some x->Grow f S x
inductive VS (f:Nat) (In:Nat->gQ->Prop) (S:RS) (v:List Int):Prop
 |told (a:Nat):Hr f In S a (.view v)->VS f In S v
 |aZ (a w:Nat):Hr f In S a (.aZ w v)->VS f In S v
 |chosen (V:List Int×Bool) (a:Nat) (b:List Int):a<5->S.aB=some (iy V a b).1->(iy V a b).2=true->aI S.view (f:Int)=true->(bK S.view (sub (iy V a b).1.1 9 3)).2=0->v=(bK S.view (sub (iy V a b).1.1 9 3)).1->VS f In S v
def qJ(S:RS)(b:List Int):Prop:=cB (gi S.acc 0) (gi S.acc 1) (gi S.acc 2) (gi S.view 0) (gi b 0) (gi b 1)=false
inductive Rs (f:Nat) (In:Nat->gQ->Prop) (S:RS):Rec->Prop
 |row (x:List Int):Grow f S x->Rs f In S (.row x)
 |cz (a:Nat) (r:List Int):a<5->Hr f In S a (.row a r)->C.mG S.aT S.sl (a:Int) r=true->Rs f In S (.cz a r)
 |aZ (a w:Nat):w<5->dw S.view (w:Int)=((a:Int),true)->C.fG S.sl (w:Int)=false->Rs f In S (.aZ w)
 |qH (b:List Int):b.length=2->aI S.view (f:Int)=true->qJ S b->gi b 0<=S.round∧(∃a,Hr f In S a (.ask (gi S.view 0) b))∨b=[wrap64 (S.round+1),(f:Int)]->Rs f In S (.qH (gi S.view 0) b)
 |take (a:Nat) (b c:List Int):b.length=2->c.length=3->Hr f In S a (.put (gi S.view 0) b c)->aI S.view (f:Int)=true->gi b 0<=S.round->(bK S.view c).2=0->qJ S b->Rs f In S (.take (gi S.view 0) b c)
 |view (v:List Int):v.length=7->gi S.view 0<gi v 0->VS f In S v->Rs f In S (.view v)
inductive Mv (f:Nat) (In:Nat->gQ->Prop):Nat->RS->RS->Prop
 |out {S:RS} {t:Nat} {M:gQ}:t<5->Qw f S M->M.Len->Mv f In 0 S (dS f S t M)
 |fail {S:RS} {x:Rec}:Rs f In S x->(cK S x).2≠0->Mv f In 0 S (cK S x).1
 |row {n:Nat} {S:RS} {x:List Int} {op:Int}:(0<op->n=1)->o8 op->Grow f S x->x.length=174->(cK S (.row x)).2=0->Mv f In n S {(cK S (.row x)).1 with own:=x,busy:=true,kept:=0,waits:=op}
 |cz {S:RS} {a:Nat} {r:List Int}:r.length=174->Rs f In S (.cz a r)->(cK S (.cz a r)).2=0->Mv f In 0 S {(cK S (.cz a r)).1 with aT:=C.gM S.aT S.sl (a:Int) r}
 |aZ {S:RS} {w:Nat}:Rs f In S (.aZ w)->(cK S (.aZ w)).2=0->Mv f In 0 S {(cK S (.aZ w)).1 with sl:=C.ku S.sl (w:Int)}
 |qH {S:RS} {b:List Int}:b.length=2->Rs f In S (.qH (gi S.view 0) b)->gi b 0<=S.round->(cK S (.qH (gi S.view 0) b)).2=0->Mv f In 0 S {(cK S (.qH (gi S.view 0) b)).1 with acc:=dK S.acc 1 b}
 |BB {S:RS} {b c:List Int}:b=[wrap64 (S.round+1),(f:Int)]->c.length=3->(bK S.view c).2=0->Rs f In S (.qH (gi S.view 0) b)->(cK S (.qH (gi S.view 0) b)).2=0->Mv f In 0 S {(cK S (.qH (gi S.view 0) b)).1 with acc:=dK S.acc 1 b,round:=wrap64 (S.round+1),aB:=some (kF S.view b c,false)}
 |take {S:RS} {b c:List Int}:b.length=2->c.length=3->Rs f In S (.take (gi S.view 0) b c)->(cK S (.take (gi S.view 0) b c)).2=0->Mv f In 0 S {(cK S (.take (gi S.view 0) b c)).1 with acc:=qB (gi S.acc 0) b b c}
 |view {S:RS} {v:List Int}:v.length=7->Rs f In S (.view v)->(cK S (.view v)).2=0->Mv f In 0 S (oM (cK S (.view v)).1 v)
 |hear {S:RS} {a w:Nat} {r:List Int}:w<5->r.length=174->Hr f In S a (.d_ w r)->a∈eU w->Mv f In 0 S {S with last:=if gi S.told w=0∨gi S.last (w*174) <gi r 0 then dK S.last (w*174) r else S.last,told:=S.told.set w (XG (gi S.told w) a)}
 |kept {S:RS} {z:Int}:Mv f In 0 S {S with kept:=z}
 |book {S:RS} {a w:Nat} {r:List Int}:r.length=174->In a (.news w r)∨(w=f∧r=S.own)->Mv f In 0 S {S with book:=C.iV S.book (w:Int) r}
 |idle {S:RS}:Mv f In 0 S {S with busy:=false}
 |done {S:RS}:0<S.waits->Mv f In 0 S {di S S.waits 0 0 with waits:=0}
 |vW {S:RS} {op e z:Int}:o8 op->o8 e->o8 z->Mv f In 1 S (di S op e z)
 |round {S:RS} {b:List Int}:Hb f In S b->Mv f In 0 S {S with round:=max S.round (gi b 0)}
 |Nn {S:RS} {V:List Int×Bool} {a:Nat} {b h c:List Int}:h.length=2->c.length=3->S.aB=some V->Hr f In S a (.promise (gi S.view 0) b h c)->Mv f In 0 S {S with aB:=some (iJ V a b h c).1}
 |taken {S:RS} {V:List Int×Bool} {a:Nat} {b:List Int}:S.aB=some V->Hr f In S a (.taken (gi S.view 0) b)->Mv f In 0 S {S with aB:=some (iy V a b).1}
 |ops {S:RS} {z:Int}:Mv f In 0 S {S with ops:=z}
inductive kH (f:Nat) (In:Nat->gQ->Prop):Nat->RS->RS->Prop
 |nil {k:Nat} (S:RS):kH f In k S S
 |cons {n m k:Nat} {S S1 S2:RS}:Mv f In n S S1->kH f In m S1 S2->n+m<=k->kH f In k S S2
section
variable {f:Nat}{In:Nat->gQ->Prop}{n m k:Nat}{S S1 S2:RS}
theorem Mv.s(h:Mv f In n S S1):kH f In n S S1:=.cons h (.nil (k:=0) _) OM
theorem kH.le(h:kH f In n S S1)(hn:n<=k):kH f In k S S1:=by
 cases h with
 |nil=>exact .nil _
 |cons a b c=>exact .cons a b OM
theorem kH.trans(h:kH f In n S S1):∀ {m k},kH f In m S1 S2->n+m<=k->kH f In k S S2:=by
 induction h with
 |nil=>grind[kH.le]
 |cons a b c ih=>intro m k h hk;exact .cons a (ih h (Nat.le_refl _)) OM
theorem kH.t(h:kH f In 0 S S1)(h2:kH f In k S1 S2):kH f In k S S2:=h.trans h2 OM
theorem Mv.t(h:Mv f In 0 S S1)(h2:kH f In k S1 S2):kH f In k S S2:=.cons h h2 OM
theorem Au{P:RS->Prop}(hP:∀n S S',Mv f In n S S'->P S->P S')(h:kH f In k S S1):P S->P S1:=by
 induction h with
 |nil=>grind
 |cons a b c ih=>grind
theorem zm{last}(hl:last.length=870):∀ {l x y},(∀i∈l,i<5)->x.length=174->fP last x l=some y->y.length=174
 | [],x,y,_,hx,h=>by grind[fP.eq_1]
 |i::l,x,y,h5,hx,h=>by
  rw[fP]at h
  split at h
  ·exact zm hl (λj hj=>h5 j (List.mem_cons_of_mem _ hj)) hx h
  ·split at h
   ·refine zm hl (λj hj=>h5 j (List.mem_cons_of_mem _ hj)) (C.E8 _ _ _ hx ?_) h
    have:=h5 i SI
    grind[rowAt,az]
   grind
theorem VT{i}(h:i∈qm f S):i<5:=List.mem_range.1 (List.mem_filter.1 h).1
theorem Grow.len(hL:bB S){x}(h:Grow f S x):x.length=174:=by
 cases h with
 |more key xU n _ _ _ _ _ e=>rw[e,C.Iu,hL.own]
 |come _ _ _ e=>grind[zm,bB.last,VT,bB.own]
theorem Np(hL:bB S)(t M):bB (dS f S t M):=by
 unfold dS;split
 ·exact hL
 ·exact⟨hL.view,hL.own,hL.aT,hL.sl,hL.acc,hL.book,hL.told,hL.last,hL.aB⟩
theorem mO(hm:Mv f In n S S1)(hL:bB S):bB S1:=by
 have hv:∀ {V:List Int×Bool},V.1.length=16->∀p,some V=some p->p.1.length=16:=λh p e=>by grind
 cases hm with
 |out _ _ _=>grind[Np]
 |fail _ _=>exact⟨hL.view,hL.own,hL.aT,hL.sl,hL.acc,hL.book,hL.told,hL.last,hL.aB⟩
 |row _ _ g hx _=>exact⟨hL.view,hx,hL.aT,hL.sl,hL.acc,hL.book,hL.told,hL.last,hL.aB⟩
 |cz hr _ _=>exact⟨hL.view,hL.own,uB hL.aT hr,hL.sl,hL.acc,hL.book,hL.told,hL.last,hL.aB⟩
 |aZ _ _=>exact⟨hL.view,hL.own,hL.aT,C.Ij _ _ hL.sl,hL.acc,hL.book,hL.told,hL.last,hL.aB⟩
 |qH hb _ _ _=>exact⟨hL.view,hL.own,hL.aT,hL.sl,by grind[bB.acc,aY],hL.book,hL.told,hL.last,hL.aB⟩
 |BB hb hc _ _ _=>exact⟨hL.view,hL.own,hL.aT,hL.sl,by grind[bB.acc,aY],hL.book,hL.told,hL.last,hv (by rw[kF,hb];simp[hL.view,hc])⟩
 |take hb hc _ _=>exact⟨hL.view,hL.own,hL.aT,hL.sl,by grind[qB],hL.book,hL.told,hL.last,hL.aB⟩
 |view h7 _ _=>exact⟨h7,hL.own,hL.aT,hL.sl,by show(qB _ _ _ _).length=8;simp[qB,ag],hL.book,hL.told,hL.last,λp h=>by cases h⟩
 | @hear _ a w r hw hr h ha=>
  have hla:=hL.last;refine⟨hL.view,hL.own,hL.aT,hL.sl,hL.acc,hL.book,by grind[bB.told],?_,hL.aB⟩
  grind[aY]
 |kept=>exact⟨hL.view,hL.own,hL.aT,hL.sl,hL.acc,hL.book,hL.told,hL.last,hL.aB⟩
 |book hr _=>exact⟨hL.view,hL.own,hL.aT,hL.sl,hL.acc,zh hL.book hr,hL.told,hL.last,hL.aB⟩
 |idle=>exact⟨hL.view,hL.own,hL.aT,hL.sl,hL.acc,hL.book,hL.told,hL.last,hL.aB⟩
 |done _=>exact⟨hL.view,hL.own,hL.aT,hL.sl,hL.acc,hL.book,hL.told,hL.last,hL.aB⟩
 |vW _ _ _=>exact⟨hL.view,hL.own,hL.aT,hL.sl,hL.acc,hL.book,hL.told,hL.last,hL.aB⟩
 |round _=>exact⟨hL.view,hL.own,hL.aT,hL.sl,hL.acc,hL.book,hL.told,hL.last,hL.aB⟩
 |Nn h2 h3 hV _=>exact⟨hL.view,hL.own,hL.aT,hL.sl,hL.acc,hL.book,hL.told,hL.last,hv (FH (hL.aB _ hV) h2 h3)⟩
 |taken hV _=>exact⟨hL.view,hL.own,hL.aT,hL.sl,hL.acc,hL.book,hL.told,hL.last,hv (FF (hL.aB _ hV))⟩
 |ops=>exact⟨hL.view,hL.own,hL.aT,hL.sl,hL.acc,hL.book,hL.told,hL.last,hL.aB⟩
theorem qR(h:kH f In k S S1):bB S->bB S1:=Au (λ_ _ _ h=>mO h) h
end
end
section
open B (aI dw eu dC gH kM eB kF cB bK pJ)
section
variable {f:Nat}{In:Nat->gQ->Prop}{n m k:Nat}{S S1 S2:RS}
theorem Nq(M S){t}(ht:t<5)(hs:Qw f S M)(hM:M.Len):Mv f In 0 S (dS f S t M):=.out ht hs hM
theorem qo(S t M):∃B,dS f S t M={S with B:=B}:=by
 unfold dS;split
 all_goals grind
theorem ajQ{B M}:Qw f {S with B:=B} M↔Qw f S M:=by cases M<;>exact Iff.rfl
theorem adP{t M M'}(h:Qw f S M):Qw f (dS f S t M') M:=by
 obtain⟨B,e⟩:=qo (f:=f) S t M'
 grind[ajQ]
theorem FQ{M}(hM:M.Len):∀(l:List Nat) S,(∀i∈l,i<5)->Qw f S M->kH f In 0 S (l.foldl (λS i=>dS f S i M) S)∧Qw f (l.foldl (λS i=>dS f S i M) S) M
 | [],S,_,hs=>⟨.nil S,hs⟩
 |i::l,S,h5,hs=>by
  obtain⟨h1,h2⟩:=FQ hM l (dS f S i M) (λj hj=>h5 j (List.mem_cons_of_mem _ hj)) (adP hs);exact⟨(Mv.out (h5 i SI) hs hM).t h1,h2⟩
theorem ajR(i){w}(h:w∈eU i):w<5:=by
 simp only[eU,List.mem_cons,List.not_mem_nil,or_false]at h;omega
theorem IQ(hf:f<5)(hL:bB S):kH f In 0 S (jf f S):=by
 unfold jf;have:∀(l:List Nat) (S:RS),(∀w∈l,w<5)->bB S->kH f In 0 S (l.foldl (λS w=>if bt S.kept w=true then S else dS f S w (.row f S.own)) S):=by
  intro l
  induction l with
  |nil=>intro S _ _;exact .nil S
  |cons w l ih=>
   intro S h5 hL;rw[List.foldl_cons]
   split
   ·grind
   ·exact(Nq (.row f S.own) S (h5 w SI) ⟨rfl,rfl⟩ ⟨hf,hL.own⟩).t (ih _ (λj hj=>h5 j (List.mem_cons_of_mem _ hj)) (Np hL _ _))
 grind[ajR]
theorem aad(hf:f<5)(hL:bB S){x op}(hn:0<op->n=1)(h64:o8 op)(hg:Grow f S x):kH f In n S (iQ f S x op).1:=by
 unfold iQ;split
 ·rename_i h
  have hr:Mv f In n S _:=Mv.row hn h64 hg (hg.len hL) h;exact hr.s.trans (IQ hf (mO hr hL)) OM
 ·rename_i h
  exact(Mv.fail (Rs.row x hg) h).s.le OM
theorem KA(hf:f<5)(hL:bB S):kH f In 0 S (j6 f S):=by
 unfold j6;split
 ·exact .nil S
 ·rename_i h1
  split
  ·cases h:fP S.last S.own (qm f S)with
   |none=>exact .nil S
   |some x=>
    refine aad hf hL (λh=>by omega) (by grind[o8]) (.come (by grind) (λh=>h1 (.inr h)) (λi hi w hw=>?_) h)
    grind
  ·exact .nil S
theorem VU(hL:bB S){a w r}(hw:w<5)(hr:r.length=174)(h:Hr f In S a (.d_ w r))(ha:a∈eU w):bB {S with last:=if gi S.told w=0∨gi S.last (w*174) <gi r 0 then dK S.last (w*174) r else S.last,told:=S.told.set w (XG (gi S.told w) a)}:=
 mO (Mv.hear hw hr h ha) hL
theorem Nr(hf:f<5)(hL:bB S){a w r}(hw:w<5)(hr:r.length=174)(h:Hr f In S a (.d_ w r)):kH f In 0 S (jk f S a w r):=by
 unfold jk;split
 ·rename_i ha
  exact(Mv.hear hw hr h ha).t (KA hf (VU hL hw hr h ha))
 grind[KA]
theorem IU{zs}(hz:zs.length=870){w}(hw:w<5):(rowAt zs w).length=174:=by grind[rowAt,az]
theorem Av(hf:f<5)(hL:bB S){dst w:Nat}(hd:dst<5)(hw:w<5)(hs:C.fG S.sl (w:Int)=true):kH f In 0 S (gI f S dst w (rowAt S.aT w)):=by
 unfold gI;split
 ·exact Nr hf hL hw (IU hL.aT hw) (.inr ⟨rfl,hw,hs,rfl⟩)
 ·exact(Nq (.d_ w (rowAt S.aT w)) S hd ⟨hw,hs,rfl⟩ ⟨hw,IU hL.aT hw⟩).s
theorem Ns{bs}(hb:bs.length=5){w:Nat}(hw:w<5):C.fG (C.ku bs (w:Int)) (w:Int)=true:=by
 have h1:C.aL (w:Int)=true:=by grind[C.aL]
 simp_all[C.fG,C.ku,gb]
theorem aae(hf:f<5)(hL:bB S){a w}(ha:a<5)(hw:w<5):kH f In 0 S (mV f S a w):=by
 unfold mV;split
 ·rename_i h1
  split
  ·grind[Av]
  ·have hr:Rs f In S (.aZ w):=.aZ a w hw h1 (by grind)
   split
   ·rename_i h3
    have hm:=Mv.aZ hr h3;exact hm.t (Av (S:={(cK S (.aZ w)).1 with sl:=C.ku S.sl (w:Int)}) hf (mO hm hL) ha hw (Ns hL.sl hw))
   ·rename_i h3;exact(Mv.fail hr h3).s
 ·exact .nil S
theorem Qx(hf:f<5)(hL:bB S){dst w}(hd:dst<5)(hw:w<5):kH f In 0 S (kN f S dst w):=by
 unfold kN;split
 ·grind[aae]
 ·exact(Nq (.aZ w S.view) S hd ⟨hw,rfl⟩ ⟨hw,hL.view⟩).s
theorem aaf(hf:f<5)(hL:bB S){i}(hi:i<5):kH f In 0 S (qI f S i):=by
 unfold qI;have:∀(l:List Nat) (S:RS),(∀w∈l,w<5)->bB S->kH f In 0 S (l.foldl (λS w=>if mU S i w=true then S else kN f S w i) S):=by
  intro l
  induction l with
  |nil=>intro S _ _;exact .nil S
  |cons w l ih=>
   intro S h5 hL;rw[List.foldl_cons]
   split
   ·grind
   ·have h:=Qx (In:=In) hf hL (h5 w SI) hi
    grind[kH.t,qR]
 grind[ajR]
theorem Tz(hf:f<5)(hL:bB S):kH f In 0 S (mM f S):=by
 unfold mM;have:∀(l:List Nat) (S:RS),(∀w∈l,w<5)->bB S->kH f In 0 S (l.foldl (qI f) S):=by
  intro l
  induction l with
  |nil=>intro S _ _;exact .nil S
  |cons w l ih=>
   intro S h5 hL;have h:=aaf (In:=In) hf hL (h5 w SI)
   grind[kH.t,qR]
 grind[VT]
theorem KM(hf:f<5)(hL:bB S){v}(h7:v.length=7)(hv:VS f In S v):kH f In 0 S (fQ f S v).1:=by
 unfold fQ;split
 ·exact .nil S
 ·have hr:Rs f In S (.view v):=.view v h7 OM hv
  split
  ·rename_i h2
   have hm:=Mv.view h7 hr h2
   grind[Mv.t,Tz,mO]
  ·rename_i h2;exact(Mv.fail hr h2).s
theorem Qy{v}(h:(fQ f S v).2=true):(fQ f S v).1.view=v:=by
 unfold fQ at h|-
 split
 ·grind
 ·split
  ·exact zi f _
  grind
theorem Qz(hf:f<5)(hL:bB S){a w v}(ha:a<5)(hw:w<5)(h7:v.length=7)(h:Hr f In S a (.aZ w v)):kH f In 0 S (IC f S a w v):=by
 have h1:=KM hf hL h7 (.aZ a w h);exact h1.t (aae hf (qR h1 hL) ha hw)
theorem ahA(hf:f<5)(hL:bB S){a w r}(ha:a<5)(hr:r.length=174)(h:Hr f In S a (.row w r)):kH f In 0 S (sS f S a w r):=by
 unfold sS;split
 ·exact .nil S
 ·rename_i h1
  have hw:w=a:=Decidable.byContradiction λh=>h1 (.inl h)
  subst hw
  split
  ·rename_i h2
   have hR:Rs f In S (.cz w r):=.cz w r ha h h2
   split
   ·rename_i h3
    exact(Mv.cz hr hR h3).t (Nq (.kept _) _ ha trivial trivial).s
   ·rename_i h3;exact(Mv.fail hR h3).s
  ·exact(Nq (.kept _) _ ha trivial trivial).s
theorem ajS{i}(h:i∈others f):i<5:=List.mem_range.1 (List.mem_filter.1 h).1
theorem FR(hf:f<5){x}(hx:x.length=174)(h:x=S.own∨x=C.rowOf S.book (f:Int)):kH f In 0 S (fV f S x):=
 (FQ (M:=.news f x) ⟨hf,hx⟩ _ S (λi hi=>ajS hi) ⟨rfl,h⟩).1
theorem FT(hL:bB S):kH f In 0 S (ig f S S.view):=
 (FQ (M:=.view S.view) hL.view _ S (λi hi=>ajS hi) rfl).1
theorem VV(hf:f<5)(hL:bB S):kH f In 0 S (lL f S):=by
 have go:∀T:RS,bB T->T.own=S.own->kH f In 0 T (j6 f (fV f T S.own)):=λT hT e=>by
  have h:=FR (In:=In) (S:=T) hf hL.own (.inl e.symm)
  grind[kH.t,KA,qR]
 have m1:Mv f In 0 S {S with busy:=false}:=.idle;have m2:Mv f In 0 {S with busy:=false} {S with busy:=false,book:=C.iV S.book (f:Int) S.own}:=Mv.book (S:={S with busy:=false}) (a:=f) hL.own (.inr ⟨rfl,rfl⟩);have L2:=mO m2 (mO m1 hL);unfold lL;refine m1.t (m2.t ?_)
 split
 ·rename_i hw
  have m3:Mv f In 0 {S with busy:=false,book:=C.iV S.book (f:Int) S.own} {di {S with busy:=false,book:=C.iV S.book (f:Int) S.own} S.waits 0 0 with waits:=0}:=Mv.done (S:={S with busy:=false,book:=C.iV S.book (f:Int) S.own}) hw;exact m3.t (go _ (mO m3 L2) rfl)
 grind
theorem ahB(hf:f<5)(hL:bB S){a z}:kH f In 0 S (sU f S a z):=by
 unfold sU;split
 ·have m1:Mv f In 0 S {S with kept:=XG S.kept a}:=.kept
  grind[Mv.t,VV,mO,Mv.s]
 ·exact .nil S
theorem ahC{a w r}(hr:r.length=174)(h:In a (.news w r)):kH f In 0 S (ZF S w r):=(Mv.book hr (.inl h)).s
end
end
section
open B (aI dw eu dC gH kM eB kF cB bK pJ)
section
variable {f:Nat}{In:Nat->gQ->Prop}{n m k:Nat}{S S1 S2:RS}
theorem aag(hf:f<5)(hL:bB S){V a b}(ha:a<5)(hm:aI S.view (f:Int)=true)(hV:S.aB=some (iy V a b).1)(ht:(iy V a b).2=true):kH f In 0 S (l_ f S (iy V a b).1):=by
 unfold l_;split
 ·rename_i h0
  have h7:=pJ S.view (sub (iy V a b).1.1 9 3) hL.view;have hl:=KM (In:=In) hf hL h7 (.chosen V a b ha hV ht hm h0 rfl)
  grind[Qy,kH.t,FT,qR]
 ·exact .nil S
theorem Co{e b ans K}(VW:kH f In 0 S ans)(hB:e=gi S.view 0->Hb f In S b)(hK:e=gi S.view 0->aI S.view (f:Int)=true->kH f In 0 {S with round:=max S.round (gi b 0)} (K {S with round:=max S.round (gi b 0)})):kH f In 0 S (sD f S e b ans K):=by
 unfold sD;split
 ·omega
 ·split
  ·exact .nil S
  ·have hm:aI S.view (f:Int)=true:=by
    grind
   have he:e=gi S.view 0:=by
    omega
   exact(Mv.round (hB he)).t (hK he hm)
theorem uJ(hL:bB S){z}:bB {S with round:=z}:=⟨hL.view,hL.own,hL.aT,hL.sl,hL.acc,hL.book,hL.told,hL.last,hL.aB⟩
theorem Nt(hf:f<5)(hL:bB S){a b}(ha:a<5)(hm:aI S.view (f:Int)=true)(h:Hr f In S a (.taken (gi S.view 0) b)):kH f In 0 S (oN f S a b):=by
 unfold oN;cases hV:S.aB with
 |none=>exact .nil S
 |some V=>
  have m1:=Mv.taken hV h
  grind[Mv.t,aag,mO,Mv.s]
theorem Cq(hf:f<5)(hL:bB S){dst e b}(hd:dst<5)(hb:b.length=2)(hs:Qw f S (.taken e b)):kH f In 0 S (iE f S dst e b):=by
 unfold iE;split
 ·exact Co (.nil S) (λhe=>⟨f,_,.inr ⟨rfl,hs⟩,by rw[<-he];rfl⟩) λhe hm=>Nt (S:={S with round:=max S.round (gi b 0)}) hf (uJ hL) hf hm (.inr ⟨rfl,rfl,hs.2.1,by rw[<-he];exact hs.2.2⟩)
 ·exact(Nq _ _ hd hs hb).s
def Ep(S:RS):Prop:=gi S.acc 0=gi S.view 0
theorem adQ{zs ws o}(h:o+ws.length<=zs.length):sub (dK zs o ws) o ws.length=ws:=by
 unfold sub dK
 grind
theorem aah(hf:f<5)(hL:bB S){a e b c}(ha:a<5)(hb:b.length=2)(hc:c.length=3)(hE:Ep S)(he:e=gi S.view 0)(hm:aI S.view (f:Int)=true)(hr0:gi b 0<=S.round)(h:Hr f In S a (.put e b c)):kH f In 0 S (uI f S a e b c):=by
 subst he;unfold uI;split
 ·rename_i h0
  split
  ·rename_i h1
   have hr:qJ S b:=by
    unfold qJ;unfold Fw at h1
    grind
   have e1:(Fw S.acc (gi S.view 0) b c).1=qB (gi S.acc 0) b b c:=by
    unfold Fw;rw[if_neg (by rw[show cB _ _ _ _ _ _=false from hr];simp)]
   rw[e1]
   split
   ·rename_i h2
    exact Cq hf hL ha hb ⟨rfl,hm,c,by rw[<-h2,<-hE,h2]⟩
   ·have hR:Rs f In S (.take (gi S.view 0) b c):=.take a b c hb hc h hm hr0 h0 hr
    split
    ·rename_i h3
     have m1:=Mv.take hb hc hR h3;exact m1.t (Cq (S:={(cK S (.take (gi S.view 0) b c)).1 with acc:=qB (gi S.acc 0) b b c}) hf (mO m1 hL) ha hb ⟨rfl,hm,c,by rw[hE]⟩)
    ·rename_i h3;exact(Mv.fail hR h3).s
  ·exact .nil S
 ·exact .nil S
theorem afG{v i}(h:i∈Qm f v):i<5:=List.mem_range.1 (List.mem_filter.1 h).1
theorem BC{M}:∀(l:List Nat) S,∃B,l.foldl (λS i=>dS f S i M) S={S with B:=B}
 | [],S=>⟨S.B,rfl⟩
 |i::l,S=>by
  obtain⟨B,e⟩:=qo (f:=f) S i M;obtain⟨B2,e2⟩:=BC (M:=M) l (dS f S i M)
  grind
theorem VX(hf:f<5)(hL:bB S)(hE:Ep S)(hm:aI S.view (f:Int)=true){V}(hV:S.aB=some V)(hp:V.2=true):kH f In 0 S (vD f S V):=by
 have h16:=hL.aB V hV;have hb:(sub V.1 7 2).length=2:=by grind[az]
 have hc:(sub V.1 9 3).length=3:=by grind[az]
 have hS:Qw f S (.put (gi S.view 0) (sub V.1 7 2) (sub V.1 9 3)):=⟨rfl,hm,V,hV,hp,rfl,rfl⟩;obtain⟨h1,h2⟩:=FQ (In:=In) (M:=.put (gi S.view 0) (sub V.1 7 2) (sub V.1 9 3)) ⟨hb,hc⟩ (Qm f S.view) S (λi hi=>afG hi) hS;obtain⟨B,e⟩:=BC (f:=f) (M:=.put (gi S.view 0) (sub V.1 7 2) (sub V.1 9 3)) (Qm f S.view) S;unfold vD;refine h1.t ?_;have L1:=qR h1 hL;rw[e]at h2 L1|-;rw[if_pos hm];exact Co (.nil _) (λ_=>⟨f,.put (gi S.view 0) (sub V.1 7 2) (sub V.1 9 3),.inr ⟨rfl,hS⟩,rfl⟩) λhe hm=>aah (S:={S with B:=B,round:=max S.round (gi (sub V.1 7 2) 0)}) hf (uJ L1) hf hb hc hE rfl hm (by grind) (.inr ⟨rfl,hS⟩)
theorem VY{V a b h c}(hp:(iJ V a b h c).2=true):(iJ V a b h c).1.2=true:=by
 unfold iJ at hp|-
 grind
theorem FU(hf:f<5)(hL:bB S)(hE:Ep S)(hm:aI S.view (f:Int)=true){a b h c}(h2:h.length=2)(h3:c.length=3)(hh:Hr f In S a (.promise (gi S.view 0) b h c)):kH f In 0 S (jI f S a b h c):=by
 unfold jI;cases hV:S.aB with
 |none=>exact .nil S
 |some V=>
  have m1:=Mv.Nn h2 h3 hV hh;dsimp only
  split
  ·rename_i ht
   exact m1.t (VX (S:={S with aB:=some (iJ V a b h c).1}) hf (mO m1 hL) hE hm rfl (VY ht))
  ·exact m1.s
theorem yH(hf:f<5)(hL:bB S)(hE:Ep S){dst e b h c}(hd:dst<5)(hb:b.length=2)(h2:h.length=2)(h3:c.length=3)(hs:Qw f S (.promise e b h c)):kH f In 0 S (gP f S dst e b h c):=by
 unfold gP;split
 ·exact Co (.nil S) (λhe=>⟨f,_,.inr ⟨rfl,hs⟩,by rw[<-he];rfl⟩) λhe hm=>FU (S:={S with round:=max S.round (gi b 0)}) hf (uJ hL) hE hm h2 h3 (.inr ⟨rfl,rfl,hs.2⟩)
 ·exact(Nq _ _ hd hs ⟨hb,h2,h3⟩).s
theorem aai(hf:f<5)(hL:bB S)(hE:Ep S){a e b}(ha:a<5)(hb:b.length=2)(he:e=gi S.view 0)(hm:aI S.view (f:Int)=true)(hr0:gi b 0<=S.round)(hh:Hr f In S a (.ask e b)):kH f In 0 S (wm f S a e b):=by
 subst he;have h8:=hL.acc;unfold wm;split
 ·rename_i h1
  have hr:qJ S b:=by
   unfold qJ;unfold tK at h1
   grind
  have e1:(tK S.acc (gi S.view 0) b).1=dK S.acc 1 b:=by
   unfold tK;rw[if_neg (by rw[show cB _ _ _ _ _ _=false from hr];simp)]
  rw[e1];have hsub:sub (dK S.acc 1 b) 1 2=b:=by grind[adQ]
  have hl3:(sub (dK S.acc 1 b) 3 2).length=2:=by grind[az,aY]
  have hl5:(sub (dK S.acc 1 b) 5 3).length=3:=by grind[az,aY]
  have hd3:∀o n,3<=o->sub (dK S.acc 1 b) o n=sub S.acc o n:=λo n ho=>by
   unfold sub dK;rw[List.drop_append,List.drop_eq_nil_of_le (by grind),List.nil_append,List.drop_drop,List.length_append,List.length_take]
   grind
  split
  ·refine yH hf hL hE ha hb hl3 hl5 ⟨rfl,hm,?_,hd3 3 2 OM,hd3 5 3 OM⟩
   grind
  ·have hR:Rs f In S (.qH (gi S.view 0) b):=.qH b hb hm hr (.inl ⟨hr0,a,hh⟩)
   split
   ·rename_i h3
    have m1:=Mv.qH hb hR hr0 h3;refine m1.t (yH (S:={(cK S (.qH (gi S.view 0) b)).1 with acc:=dK S.acc 1 b}) hf (mO m1 hL) ?_ ha hb hl3 hl5 ⟨rfl,hm,hsub.symm,rfl,rfl⟩);show gi (dK S.acc 1 b) 0=gi S.view 0;rw[<-hE]
    grind[gi,dK]
   ·rename_i h3;exact(Mv.fail hR h3).s
 ·exact .nil S
theorem IV(hf:f<5)(hL:bB S)(hE:Ep S)(hm:aI S.view (f:Int)=true){V}(hV:S.aB=some V):kH f In 0 S (p_ f S V):=by
 have h16:=hL.aB V hV;have hb:(sub V.1 7 2).length=2:=by grind[az]
 have hS:Qw f S (.ask (gi S.view 0) (sub V.1 7 2)):=⟨rfl,hm,V,hV,rfl⟩;obtain⟨h1,h2⟩:=FQ (In:=In) (M:=.ask (gi S.view 0) (sub V.1 7 2)) hb (Qm f S.view) S (λi hi=>afG hi) hS;obtain⟨B,e⟩:=BC (f:=f) (M:=.ask (gi S.view 0) (sub V.1 7 2)) (Qm f S.view) S;unfold p_;refine h1.t ?_;have L1:=qR h1 hL;rw[e]at h2 L1|-;rw[if_pos hm];exact Co (.nil _) (λ_=>⟨f,.ask (gi S.view 0) (sub V.1 7 2),.inr ⟨rfl,hS⟩,rfl⟩) λhe hm=>aai (S:={S with B:=B,round:=max S.round (gi (sub V.1 7 2) 0)}) hf (uJ L1) hE hf hb rfl hm (by grind) (.inr ⟨rfl,hS⟩)
theorem TA(hf:f<5)(hL:bB S)(hE:Ep S)(hm:aI S.view (f:Int)=true){c}(hc:c.length=3)(hn:(bK S.view c).2=0):
  kH f In 0 S (cO f S c).1∧((cO f S c).2=0->(cO f S c).1.aB=some (kF S.view [wrap64 (S.round+1),(f:Int)] c,false)∧Ep (cO f S c).1∧(cO f S c).1.view=S.view):=by
 unfold cO;dsimp only
 split
 ·rename_i h1
  have hr:qJ S [wrap64 (S.round+1),(f:Int)]:=by
   unfold qJ;unfold tK at h1
   grind
  have e1:(tK S.acc (gi S.view 0) [wrap64 (S.round+1),(f:Int)]).1=dK S.acc 1 [wrap64 (S.round+1),(f:Int)]:=by
   unfold tK;rw[if_neg (by rw[show cB _ _ _ _ _ _=false from hr];simp)]
  rw[e1];have hR:Rs f In S (.qH (gi S.view 0) [wrap64 (S.round+1),(f:Int)]):=.qH _ rfl hm hr (.inr rfl)
  split
  ·rename_i h3
   refine⟨(Mv.BB rfl hc hn hR h3).s,λ_=>⟨rfl,?_,rfl⟩⟩;show gi (dK S.acc 1 _) 0=gi S.view 0;have h8:=hL.acc;rw[<-hE]
   grind[gi,dK]
  ·rename_i h3
   exact⟨(Mv.fail hR h3).s,λh=>absurd h h3⟩
 ·exact⟨.nil S,λh=>by cases h⟩
theorem QA(hf:f<5)(hL:bB S)(hE:Ep S){a M}(ha:a<5)(hM:M.Len)(h:In a M):kH f In 0 S (kr f S a M):=by
 have lr:∀ {z:Int},bB {S with round:=z}:=uJ hL;have lv:kH f In 0 S (dS f S a (.view S.view)):=(Nq (.view S.view) S ha rfl hL.view).s;cases M with
 |row w r=>exact ahA hf hL ha hM.2 (.inl h)
 |kept n=>exact ahB hf hL
 |news w r=>exact ahC hM.2 h
 |ask e b=>exact Co (e:=e) (b:=b) (ans:=dS f S a (.view S.view)) (K:=λT=>wm f T a e b) lv (λhe=>⟨a,_,.inl h,by rw[<-he];rfl⟩) λhe hm=>aai (S:={S with round:=max S.round (gi b 0)}) hf lr hE ha hM he hm (by grind) (.inl h)
 |promise e b h' c=>exact Co (e:=e) (b:=b) (ans:=S) (K:=λT=>jI f T a b h' c) (.nil S) (λhe=>⟨a,_,.inl h,by rw[<-he];rfl⟩) λhe hm=>FU (S:={S with round:=max S.round (gi b 0)}) hf lr hE hm hM.2.1 hM.2.2 (.inl (by grind))
 |put e b c=>exact Co (e:=e) (b:=b) (ans:=dS f S a (.view S.view)) (K:=λT=>uI f T a e b c) lv (λhe=>⟨a,_,.inl h,by rw[<-he];rfl⟩) λhe hm=>aah (S:={S with round:=max S.round (gi b 0)}) hf lr ha hM.1 hM.2 hE he hm (by grind) (.inl h)
 |taken e b=>exact Co (e:=e) (b:=b) (ans:=S) (K:=λT=>oN f T a b) (.nil S) (λhe=>⟨a,_,.inl h,by rw[<-he];rfl⟩) λhe hm=>Nt (S:={S with round:=max S.round (gi b 0)}) hf lr ha hm (.inl (by grind))
 |view v=>exact KM hf hL hM (.told a (.inl h))
 |aZ w v=>exact Qz hf hL ha hM.1 hM.2 (.inl h)
 |d_ w r=>exact Nr hf hL hM.1 hM.2 (.inl h)
end
end
section
open B (aI dw eu dC gH kM eB kF cB bK pJ)
section
variable {f:Nat}{In:Nat->gQ->Prop}{n m k:Nat}{S S1 S2:RS}
theorem xV{zs ws o}(ho:0<o)(hz:0<zs.length):gi (dK zs o ws) 0=gi zs 0:=by
 grind[gi,dK]
theorem afH(hm:Mv f In n S S1)(h:bB S∧Ep S):bB S1∧Ep S1:=by
 refine⟨mO hm h.1,?_⟩;have h8:=h.1.acc;cases hm with
 |out _ _ _=>obtain⟨B,e⟩:=qo (f:=f) S _ _;rw[e];exact h.2
 |qH hb _ _ _=>exact(xV OM OM).trans h.2
 |BB hb _ _ _ _=>exact(xV OM OM).trans h.2
 |take _ _ _ _=>exact h.2
 |view _ _ _=>rfl
 |_=>exact h.2
theorem FV(h:kH f In k S S1)(hL:bB S)(hE:Ep S):bB S1∧Ep S1:=Au (λ_ _ _=>afH) h ⟨hL,hE⟩
theorem l8{zs}(hz:zs.length=870){i:Nat}(hi:i<5):(C.rowOf zs (i:Int)).length=174:=by
 grind[C.rowOf,az,ag]
theorem QB(hf:f<5)(hL:bB S)(hE:Ep S):kH f In 0 S (sV f S):=by
 unfold sV;dsimp only;have h1:kH f In 0 S (if S.busy=true then jf f S else S):=by
  split
  ·grind[IQ]
  ·exact .nil S
 generalize(if S.busy=true then jf f S else S)=S1 at h1|-;obtain⟨L1,E1⟩:=FV h1 hL hE;have h2:=KA (In:=In) hf L1;obtain⟨L2,E2⟩:=FV h2 L1 E1;have h3:=Tz (In:=In) hf L2;obtain⟨L3,E3⟩:=FV h3 L2 E2;refine h1.t (h2.t (h3.t ?_));generalize mM f (j6 f S1)=S2 at L3 E3|-;have h1:kH f In 0 S2 (if 1<gi S2.view 0 then ig f S2 S2.view else S2):=by
  split
  ·exact FT L3
  ·exact .nil S2
 generalize(if 1<gi S2.view 0 then ig f S2 S2.view else S2)=S3 at h1|-;obtain⟨L1,E1⟩:=FV h1 L3 E3;refine h1.t ?_
 split
 ·rename_i hm
  have h1:kH f In 0 S3 (if 0<gi (C.rowOf S3.book (f:Int)) 0 then fV f S3 (C.rowOf S3.book (f:Int))else S3)∧(if 0<gi (C.rowOf S3.book (f:Int)) 0 then fV f S3 (C.rowOf S3.book (f:Int))else S3).view=S3.view:=by
   split
   ·grind[FR,l8,bB.book,G9]
   ·exact⟨.nil S3,rfl⟩
  generalize(if 0<gi (C.rowOf S3.book (f:Int)) 0 then fV f S3 (C.rowOf S3.book (f:Int))else S3)=S4 at h1|-;obtain⟨h1,hv⟩:=h1;obtain⟨L4,E4⟩:=FV h1 L1 E1;refine h1.t ?_;rw[<-hv]at hm;cases hV:S4.aB with
  |none=>exact .nil S4
  |some V=>
   have h16:=L4.aB V hV;dsimp only
   split
   ·rename_i hn
    obtain⟨hb,hb2⟩:=TA (In:=In) hf L4 E4 hm (c:=sub V.1 9 3) (by grind[az]) hn
    grind[kH.t,qR,Ck.eq_1,IV]
   ·exact .nil S4
 ·exact .nil S3
theorem IW:∀ss D at_,0<=(fU D at_ ss).2∧(fU D at_ ss).2<=5
 | [],D,at_=>by show(0:Int)<=0∧(0:Int)<=5;omega
 |s::r,D,at_=>by
  have hw:0<=(bA D at_ s).2∧(bA D at_ s).2<=5:=by
   grind[bA]
  unfold fU;split
  ·exact IW r _ _
  omega
theorem IX(S x):o8 (cK S x).2:=by
 have h:0<=(cK S x).2∧(cK S x).2<=5:=by
  show 0<=(bW S.D S.cnt S.used x.W).2.2.2∧(bW S.D S.cnt S.used x.W).2.2.2<=5;unfold bW;split
  ·grind
  ·split
   ·grind
   ·have hp:=IW (dB (S.cnt+1) x.W (aP x.W.length)) S.D S.used
    grind[cZ]
 grind[o8]
theorem QC(S c):o8 (cO f S c).2:=by
 grind[cO,o8,IX]
theorem VZ(v c):o8 (bK v c).2:=by
 grind[B.bK,o8]
theorem xc:o8 0:=by grind[o8]
theorem V3(S x op):o8 (iQ f S x op).2:=by
 grind[iQ,IX]
theorem aaj(hf:f<5)(hL:bB S)(hE:Ep S)(hm:aI S.view (f:Int)=true){op}(hop:o8 op){c}(hc:c.length=3):kH f In 1 S (jV f S op c).1:=by
 unfold jV;split
 ·rename_i h0
  split
  ·obtain⟨hb,hb2⟩:=TA (In:=In) hf hL hE hm hc h0
   have hL5:=qR hb hL
   split
   ·rename_i h1
    obtain⟨e1,e2,e3⟩:=hb2 h1;have m1:Mv f In 1 (cO f S c).1 (di (cO f S c).1 op 0 0):=.vW hop xc xc;refine hb.trans (m1.s.trans (IV (S:=di (cO f S c).1 op 0 0) hf (mO m1 hL5) e2 ?_ ?_) (Nat.le_refl _)) OM
    ·show aI (cO f S c).1.view _=true;grind
    ·show(cO f S c).1.aB=_;rw[Ck,e1];rfl
   ·exact hb.trans (Mv.vW (f:=f) (In:=In) hop (QC _ _) xc).s OM
  ·exact(Mv.vW hop (by grind[o8]) xc).s
 ·exact(Mv.vW hop (VZ _ _) xc).s
theorem V4{kd dst key num}(hk3:kd≠3)(h:(rR f S kd dst key num).2.2=0):Grow f S (rR f S kd dst key num).1:=by
 have put:∀xU,xU<2->aI S.view (f:Int)=true->S.busy=false->(C.lq S.own (1+key.toNat*7+xU) key num).2=0->Grow f S (C.lq S.own (1+key.toNat*7+xU) key num).1:=by
  intro xU hfl hm hb h;unfold C.lq at h|-
  split at h
  ·rename_i ha
   obtain⟨a1,a2,a3,a4⟩:=C.wQ ha
   split at h
   ·cases h
   ·rename_i hle
    rw[if_pos ha,if_neg hle];exact .more key.toNat xU num OM OM a3 a4 (by simp_all[C.cntF]) rfl hb hm
  omega
 unfold rR at h|-
 split at h
 ·cases h
 ·rename_i hm
  rw[if_neg hm]
  split at h
  ·cases h
  ·rename_i hk
   rw[if_neg hk];rw[if_neg hk3]
   split at h
   ·cases h
   ·rename_i hb
    have hm':aI S.view (f:Int)=true:=by grind
    have hb':S.busy=false:=by grind
    rw[if_neg hb];dsimp only at h|-;generalize hg:(if kd=0 then C.lq S.own (1+key.toNat*7) key num else if kd=1 then C.lq S.own (1+key.toNat*7+1) key num else if kd=2 then(if dst≠(f:Int)then C.mI S.own key num dst else(au 174,5))else(au 174,5))=g at h|-
    split at h
    ·rename_i h0
     rw[if_pos h0]
     split at h
     ·cases h
     ·rename_i hr
      rw[if_neg hr];subst hg
      split at h0
      ·rename_i e;rw[if_pos e];exact put 0 OM hm' hb' h0
      ·split at h0
       ·simp_all
       ·split at h0
        ·split at h0
         ·unfold C.mI at h0|-
          split at h0
          ·rename_i ha
           obtain⟨a1,a2,a3,a4⟩:=C.wQ ha.2
           split at h0
           ·cases h0
           ·have h5:dst.toNat<5:=by simp_all[C.aL]
            exact .more key.toNat (2+dst.toNat) num OM OM a3 a4 (by simp_all[C.cntF,if_neg]) (by grind) hb' hm'
          omega
         omega
        omega
    grind
theorem IY(hk:C.Bk S.book)(kd dst key num):o8 (rR f S kd dst key num).2.2∧o8 (rR f S kd dst key num).2.1:=by
 have hv:=C.xR hk key 5;have pc:∀i,o8 (C.lq S.own i key num).2:=λi=>by
  grind[C.lq,o8]
 have gc:o8 (C.mI S.own key num dst).2:=by
  grind[C.mI,o8]
 unfold rR
 split
 ·grind[o8]
 ·split
  ·grind[o8]
  ·split
   ·grind[o8]
   ·split
    ·grind[o8]
    ·grind[o8]
theorem FW(hf:f<5)(hL:bB S)(hE:Ep S)(hk:C.Bk S.book){kd dst key num c}(hc:c.length=3):kH f In 1 S (gG f S kd dst key num c).1:=by
 have m0:Mv f In 0 S {S with ops:=wrap64 (S.ops+1)}:=.ops;have go:∀T:RS,bB T->Ep T->C.Bk T.book->o8 T.ops->kH f In 1 T (if aI T.view (f:Int)=true∧kd=4 then jV f T T.ops c else
   (let p:=rR f T kd dst key num
    if p.2.2≠0∨kd=3 then(di T T.ops p.2.2 p.2.1,p.2.2)
    else if(iQ f T p.1 T.ops).2=0 then iQ f T p.1 T.ops else(di (iQ f T p.1 T.ops).1 T.ops (iQ f T p.1 T.ops).2 0,(iQ f T p.1 T.ops).2))).1:=by
  intro T L0 E0 K0 hop;dsimp only
  split
  ·grind[aaj]
  ·split
   ·exact(Mv.vW hop (IY K0 _ _ _ _).1 (IY K0 _ _ _ _).2).s
   ·rename_i h
    have hk3:kd≠3:=λe=>h (.inr e)
    have hg:=V4 (f:=f) (S:=T) hk3 (Decidable.byContradiction λe=>h (.inl e))
    split
    ·grind[aad]
    ·rename_i h0
     have hgc:=V3 (f:=f) T (rR f T kd dst key num).1 T.ops;unfold iQ at h0 hgc|-
     split
     ·grind
     ·rename_i h1
      rw[if_neg h1]at hgc;exact(Mv.fail (f:=f) (In:=In) (Rs.row _ hg) h1).s.trans (Mv.vW hop hgc xc).s OM
 exact m0.t (go {S with ops:=wrap64 (S.ops+1)} (mO m0 hL) hE hk (by show o8 (wrap64 (S.ops+1));unfold o8 wrap64;omega))
def QF(S:RS):Nat:=S.aX.length+if 0<S.waits then 1 else 0
theorem ahD(hm:Mv f In n S S1):QF S1<=QF S+n:=by
 cases hm with
 |out _ _ _=>obtain⟨B,e⟩:=qo (f:=f) S _ _;rw[e];exact Nat.le_refl _
 | @row _ _ _ op h _ _ _ _=>
  show S.aX.length+(if 0<op then 1 else 0)<=_;unfold QF
  grind
 |done h=>
  show(S.aX++[_]).length+(if(0:Int) <0 then 1 else 0)<=_
  simp_all[QF]
 |vW _ _ _=>
  show(S.aX++[_]).length+(if 0<S.waits then 1 else 0)<=_
  grind[QF]
 |_=>exact Nat.le_add_right _ _
theorem adR(h:kH f In k S S1):QF S1<=QF S+k:=by
 induction h with
 |nil=>omega
 |cons a b c ih=>have:=ahD a;omega
structure Nu (S:RS):Prop where
 w:o8 S.waits
 r:∀r∈S.aX,∀x∈r,o8 x
theorem ahE(hm:Mv f In n S S1)(h:Nu S):Nu S1:=by
 have ap:∀ {op e z:Int},o8 op->o8 e->o8 z->∀r∈S.aX++[[op,e,z]],∀x∈r,o8 x:=λh1 h2 h3 r hr x hx=>by
  rcases List.mem_append.1 hr with hr|hr
  ·grind[Nu.r]
  grind
 cases hm with
 | @out _ t M _ _ _=>obtain⟨B,e⟩:=qo (f:=f) S t M;rw[e];exact⟨h.w,h.r⟩
 |row _ ho _ _ _=>exact⟨ho,h.r⟩
 |done _=>exact⟨xc,ap h.w xc xc⟩
 |vW h1 h2 h3=>exact⟨h.w,ap h1 h2 h3⟩
 |_=>exact⟨h.w,h.r⟩
theorem adS(h:kH f In k S S1):Nu S->Nu S1:=Au (λ_ _ _ h=>ahE h) h
end
end
section
variable (w0:World)(f b l vb rc:Nat)(ra:Option Addr)(S:RS)(Z:bT)
def vX(z:List Int)(S':RS):Prop:=Calls prog 66 #[.pointer (some ⟨b,0,none⟩),ia z] w0 λe w'=>e=.returned (.tuple #[])∧Inv (two (rb f b l vb ra rc S) Z).own w0 w' [two (rb f b l vb ra rc S') Z]
variable (hI:Inv (two (rb f b l vb ra rc S) Z).own w0 w0 [two (rb f b l vb ra rc S) Z])
include hI
theorem ajY(z r)(hz:z.length=189)(h0:gi z 0=0)(hs:sub z 2 174=r)(hr:r.length=174):vX w0 f b l vb rc ra S Z z {S with own:=r,busy:=true,kept:=0}:=by
 unfold vX;go_enter func66,ntmps66;go_wp2_with(first|refine YL ?_|refine YX ?_;intro bx w hI|refine YS ?_;intro w hI);exact⟨rfl,_,h_ KF _ _,rfl,hI.tl⟩
theorem ajZ(z r)(i:Nat)(hz:z.length=189)(h0:gi z 0=1)(h1:gi z 1=(i:Int))(hs:sub z 2 174=r)(hr:r.length=174):vX w0 f b l vb rc ra S Z z {S with aT:=C.gM S.aT S.sl (i:Int) r}:=by
 unfold vX;go_enter func66,ntmps66;go_upto_region 5 with(first|refine YL ?_|refine YX ?_;intro bx w hI)
 refine ZT [7] 8 hI ?_;intro wd hI
 (repeat(refine ZQ ?_;go_wp2_with(first|go_at_call 102;refine KE (Tu hI (i:Int) r hr jo) ?_;intro w1 hI|refine YL ?_);refine ZP ?_))
 go_wp2_with(fail);exact⟨rfl,_,h_ KF _ _,rfl,hI.tl⟩
theorem aj0(z)(i:Nat)(hz:z.length=189)(h0:gi z 0=2)(h1:gi z 1=(i:Int)):vX w0 f b l vb rc ra S Z z {S with sl:=C.ku S.sl (i:Int)}:=by
 unfold vX;go_enter func66,ntmps66;go_upto_region 7 with(first|refine YL ?_|refine YX ?_;intro bx w hI)
 refine ZT [5] 6 hI ?_;intro wd hI
 (repeat(refine ZQ ?_;go_wp2_with(first|go_at_call 103;refine KE (Tt hI (i:Int) jo) ?_;intro w1 hI|refine YL ?_);refine ZP ?_))
 go_wp2_with(fail);exact⟨rfl,_,h_ KF _ _,rfl,hI.tl⟩
theorem aj1(z bl)(hz:z.length=189)(h0:gi z 0=3)(hs:sub z 177 2=bl)(hb0:gi z 177=gi bl 0)(hbl:bl.length=2):vX w0 f b l vb rc ra S Z z {S with acc:=dK S.acc 1 bl,round:=max S.round (gi bl 0)}:=by
 unfold vX;by_cases hmx:S.round<gi bl 0
 ·have hF:Hid (max S.round (gi bl 0)=gi bl 0):=HD OM
  exact W44
 ·have hF:Hid (max S.round (gi bl 0)=S.round):=HD OM
  exact W44
theorem aj2(z bl c)(hz:z.length=189)(h0:gi z 0=4)(hs:sub z 177 2=bl)(hsc:sub z 179 3=c)(hb0:gi z 177=gi bl 0)(hbl:bl.length=2)(hc:c.length=3):vX w0 f b l vb rc ra S Z z {S with acc:=dK (dK (dK S.acc 1 bl) 3 bl) 5 c,round:=max S.round (gi bl 0)}:=by
 unfold vX;have hal:=(aS hI aC).acc;by_cases hmx:S.round<gi bl 0
 ·have hF:Hid (max S.round (gi bl 0)=gi bl 0):=HD OM
  exact W23
 ·have hF:Hid (max S.round (gi bl 0)=S.round):=HD OM
  exact W23
theorem aj3(z v)(hz:z.length=189)(h0:gi z 0=5)(hs:sub z 182 7=v)(hv:v.length=7):vX w0 f b l vb rc ra S Z z (oM S v):=by
 unfold vX;go_enter func66,ntmps66;go_wp2_with(first|refine YL ?_|refine YX ?_;intro bx w hI|go_at_call 64;refine KC jo hI (Ku _ f b l _ _ _ _ _ v hv (hI.at_ aM)) ?_;intro w1 hI);exact⟨rfl,_,h_ KF _ _,rfl,hI.tl⟩
end
section
open B (eu)
theorem F7{z r o n}(h:sub z o n=r)(hn:0<n):gi z o=gi r 0:=by
 grind[sub,gi]
def aaA(D:DS)(cnt used:Nat)(B:Nat->List (List UInt8)):RS:=
 ⟨au 7,au 174,au 870,List.replicate 5 false,au 8,0,none,au 870,false,0,0,0,[],au 5,au 870,D,cnt,used,B⟩
def r_(D:DS)(cnt used:Nat)(B:Nat->List (List UInt8)):RS:=oM (aaA D cnt used B) eu
def dz(S:RS):List (List UInt8)->Option RS
 | []=>some S
 |b::l=>(nI b).bind λx=>dz (dD S x) l
def gT(D:DS)(B:Nat->List (List UInt8)):Option RS×DS×Int:=match dJ D with
 | (none,D',e)=>(none,D',e)
 | (some (bs,cnt,used),D',_)=>match dz (r_ D' cnt used B) bs with
  |none=>(none,D',1)
  |some S=>(some S,D',0)
theorem aaB(D cnt used B):bB (aaA D cnt used B):=
 ⟨ag 7,ag 174,ag 870,by simp[aaA],ag 8,ag 870,ag 5,ag 870,λp hp=>by cases hp⟩
def ahI:List Value:=.int .i64 0::.pointer none::(iz (au 7)++(iz (au 174)++(iz (au 870)++((List.replicate 5 false).map Value.bool++(iz (au 8)++([.int .i64 0]++([.pointer none]++(iz (au 870)++([.bool false]++([.int .i64 0]++([.int .i64 0]++([.int .i64 0]++([.slice none 0 0]++(iz (au 5)++(iz (au 870))))))))))))))))
theorem ahJ:(prog.info? 98).map (·.zero)=some (some (.agg ahI.toArray)):=by kernel_rfl
theorem aj4:JK prog 98:=⟨_,underlying98,by kernel_rfl⟩
theorem ahK:GU prog 98 0 0 1:=⟨_,underlying98,by kernel_rfl⟩
theorem ahL:GU prog 98 1 1 1:=⟨_,underlying98,by kernel_rfl⟩
theorem aaC:ahI.length=2818:=by
 grind[ahI,List.length_append,j5,ag]
section
variable {P:Program}{ops:Array Oper}{Q:Exit->Act->World->Prop}{a:Act}{rest:List Oper}{T:List Nat}{w0 w:World}{m m':List bT}{dst:Option Tmp}{ty:TypeId}{pos:String}{af:Array Edge}
theorem aj5{x y}{f l:Nat}(D cnt used B)(h0:a.eval x=.int .i64 (f:Int))(h1:a.eval y=.pointer (some ⟨l,0,none⟩))(k:wpList prog ops Q rest (a.put dst (.agg (bg f l 0 none 0 (aaA D cnt used B)).toArray)) w):wpList prog ops Q (⟨dst,.build 98 #[(0,x),(1,y)],ty,pos,af,none⟩::rest) a w:=by
 exact jO (ps:=[(0,x),(1,y)]) (n:=2818) [(0,[.int .i64 (f:Int)]),(1,[.pointer (some ⟨l,0,none⟩)])] ahJ rfl aaC aj4 ⟨by rw[h0];rfl,ahK,Nat.le_of_ble_eq_true rfl,by rw[h1];rfl,ahL,Nat.le_of_ble_eq_true rfl,trivial⟩ k
theorem ahM{b f l S}(h:Inv T w0 w (blk b 98 (bg f l 0 none 0 S)::m))(hL:bB S)(hV:S.aB=none):Inv T w0 w (two (rb f b l 0 none 0 S) (nZ True)::m):=
 h.turn (λhs y hy=>by
  rcases List.mem_cons.1 hy with rfl|hy
  ·exact⟨⟨hL,hs _ SI,by rw[hV];trivial⟩,trivial⟩
  grind) (by grind[owned,two,nZ,Ta,sQ])
theorem ahN{pa pc pb}(h:Inv T w0 w (eo (pa,pc,pb)::m)):∃ab,pb.length<=pc∧pc<=maxLen∧Inv T w0 w (nY ab pa pb::m):=by
 have hs:=h.sat (eo (pa,pc,pb)) SI;have hrd:Rd w pa (pb.map bv):=EB hs;have hs2:=hs;rcases hs2 with⟨hv,hx⟩ | ⟨g,off,cap,cur,hv,hg,h1,h2,h3,h4⟩
 ·simp only[sv,Value.slice.injEq]at hv
  obtain⟨rfl,hl,rfl⟩:=hv;refine⟨none,by omega,Nat.zero_le _,h.turn (λhs y hy=>?_) (by simp[owned,nY,eo,J5,sv,Value.ownBlock])⟩;rcases List.mem_cons.1 hy with rfl|hy
  ·exact⟨λx hx=>(by cases hx),λk hk=>(by cases hk),hrd⟩
  grind
 ·simp only[sv,Value.slice.injEq,List.length_map]at hv
  obtain⟨rfl,_,rfl⟩:=hv;simp only[List.length_map]at h1;refine⟨some g,h1,h2,h.turn (λhs y hy=>?_) (by simp[owned,nY,eo,J5,sv,Value.ownBlock])⟩;rcases List.mem_cons.1 hy with rfl|hy
  ·exact⟨λx hx=>(by grind),λk hk=>(by grind),hrd⟩
  grind
end
section
variable (w0:World)(f b l vb rc:Nat)(ra:Option Addr)(S:RS)(Z:bT)
theorem V_(x)(hx:x.Len)(hI:Inv (two (rb f b l vb ra rc S) Z).own w0 w0 [two (rb f b l vb ra rc S) Z]):
  Calls prog 66 #[.pointer (some ⟨b,0,none⟩),ia x.nX] w0 λe w'=>e=.returned (.tuple #[])∧Inv (two (rb f b l vb ra rc S) Z).own w0 w' [two (rb f b l vb ra rc (dD S x)) Z]:=by
 have n1:=ag 174;have n2:=ag 2;have n3:=ag 3;have n7:=ag 7;cases x with
 |row r=>exact ajY w0 f b l vb rc ra S Z hI _ r (ed hx n2 n3 n7) dx (g_ hx) hx
 |cz i r=>exact ajZ w0 f b l vb rc ra S Z hI _ r i (ed hx.2 n2 n3 n7) dx xz (g_ hx.2) hx.2
 |aZ i=>exact aj0 w0 f b l vb rc ra S Z hI _ i (ed n1 n2 n3 n7) dx xz
 |qH e bl=>exact aj1 w0 f b l vb rc ra S Z hI _ bl (ed n1 hx n3 n7) dx (fJ n1 hx) (F7 (fJ (k:=3) (w:=0) (e:=e) (c:=au 3) (v:=au 7) n1 hx) OM) hx
 |take e bl c=>exact aj2 w0 f b l vb rc ra S Z hI _ bl c (ed n1 hx.1 hx.2 n7) dx (fJ n1 hx.1) (jb n1 hx.1 hx.2) (F7 (fJ (k:=4) (w:=0) (e:=e) (c:=c) (v:=au 7) n1 hx.1) OM) hx.1 hx.2
 |view v=>exact aj3 w0 f b l vb rc ra S Z hI _ v (ed n1 n2 n3 hx) dx (jc n1 n2 n3 hx) hx
end
theorem Ja{D}(h:(dJ D).1=none):(dJ D).2.2≠0:=by
 unfold dJ at h|-
 grind
section
variable (w0:World)(d mr:Nat)(wb:Option Nat)(D:DS)(hI:Inv (fB d mr wb D).own w0 w0 [fB d mr wb D])(hD:xJ D)(hwl:D.waits.length<=50000)(hE:Ae (dU D))
include hI hD hwl hE
theorem ad2(D' er)(h:dJ D=(none,D',er)):Calls prog 63 #[.pointer (some ⟨d,0,none⟩)] w0 λe w'=>∃nu,e=.returned (.tuple #[.pointer none,.slice none 0 0,.int .i64 er])∧Inv (fB d mr wb D).own w0 w' [fB d mr nu D']:=by
 grind[Ms]
theorem aaD(bs cnt used D' er)(h:dJ D=(some (bs,cnt,used),D',er)):Calls prog 63 #[.pointer (some ⟨d,0,none⟩)] w0 λe w'=>∃nu l a c els,Hid (PQ els=bs)∧e=.returned (.tuple #[.pointer (some ⟨l,0,none⟩),.slice a els.length c,.int .i64 0])∧Inv (fB d mr wb D).own w0 w' [two (fB d mr nu D') (two (bss a c els) (blk l 185 (lcs d cnt used)))]:=by
 refine(Ms w0 d mr wb D hI hD hwl hE).mono ?_;rintro e w' ⟨nu,⟨l,a,c,els,cnt',ame,h1,rfl,hJ⟩ | ⟨h1,rfl,hJ⟩⟩
 ·rw[h]at h1 hJ
  obtain⟨⟨rfl,rfl,rfl⟩,_,_⟩:=h1;refine⟨nu,l,a,c,els,HD rfl,rfl,?_⟩;have h2:=(hJ.perm (m':=[bss a c els,blk l 185 (lcs d cnt used),fB d mr nu D']) (List.perm_append_comm (l₁:=[bss a c els,blk l 185 (lcs d cnt used)]) (l₂:=[fB d mr nu D']))).eX;exact(h2.perm (m':=[fB d mr nu D',two (bss a c els) (blk l 185 (lcs d cnt used))]) (List.Perm.swap _ _ _)).eX
 grind
end
end
section
open A (QE kE bU)
structure CX where
 cb:Nat
 p:Nat
 pb:Nat->Nat
 c:Nat->Nat
 d:Nat->Nat
 mr:Nat->Nat
structure CM where
 b:Nat
 l:Nat
 vb:Nat
 rc:Nat
 ra:Option Addr
 wb:Option Nat
 pa:Option Addr
 pc:Nat
structure CY where
 m:Nat->CM
 q:Nat->List QE
structure CS where
 up:Nat->Bool
 S:Nat->RS
 B:Nat->List (List UInt8)
 past:Nat->List (List Int)
def qw(a:Value)(f g h:Nat->Value):List Value:=[a,f 0,f 1,f 2,f 3,f 4,g 0,g 1,g 2,g 3,g 4,h 0,h 1,h 2,h 3,h 4]
theorem lt5{p:Nat->Prop}(h0:p 0)(h1:p 1)(h2:p 2)(h3:p 3)(h4:p 4):∀ {i},i<5->p i
  :=by grind
section
variable (a:Value)(f g h f' g' h':Nat->Value)(v:Value)
theorem zt{i}(hi:i<5):(qw a f g h)[1+i]? =some (f i):=lt5 (p:=λi=>(qw a f g h)[1+i]? =some (f i)) rfl rfl rfl rfl rfl hi
theorem tF{i}(hi:i<5):(qw a f g h)[6+i]? =some (g i):=lt5 (p:=λi=>(qw a f g h)[6+i]? =some (g i)) rfl rfl rfl rfl rfl hi
theorem ahQ{i}(hi:i<5):(qw a f g h)[11+i]? =some (h i):=lt5 (p:=λi=>(qw a f g h)[11+i]? =some (h i)) rfl rfl rfl rfl rfl hi
theorem We{i}(hi:i<5):splice (qw a f g h) (1+i) [v]=qw a (gV f i v) g h:=lt5 (p:=λi=>splice (qw a f g h) (1+i) [v]=qw a (gV f i v) g h) rfl rfl rfl rfl rfl hi
theorem BJ{i}(hi:i<5):splice (qw a f g h) (6+i) [v]=qw a f (gV g i v) h:=lt5 (p:=λi=>splice (qw a f g h) (6+i) [v]=qw a f (gV g i v) h) rfl rfl rfl rfl rfl hi
theorem Wh{i}(hi:i<5):splice (qw a f g h) (11+i) [v]=qw a f g (gV h i v):=lt5 (p:=λi=>splice (qw a f g h) (11+i) [v]=qw a f g (gV h i v)) rfl rfl rfl rfl rfl hi
variable {a f g h f' g' h'}
theorem lS(e1:∀i,i<5->f i=f' i)(e2:∀i,i<5->g i=g' i)(e3:∀i,i<5->h i=h' i):qw a f g h=qw a f' g' h':=by
 grind[qw]
end
def aj7(X:CX)(i:Nat):Value:=.pointer (some ⟨X.d i,0,none⟩)
def AQ(Y:CY)(C:CS)(i:Nat):Value:=if C.up i=true then .pointer (some ⟨(Y.m i).b,0,none⟩)else .pointer none
def Jb(Y:CY)(C:CS)(i:Nat):Value:=.slice (Y.m i).pa (C.past i).length (Y.m i).pc
def bC(X:CX)(Y:CY)(C:CS):List Value:=qw (.pointer (some ⟨X.p,0,none⟩)) (aj7 X) (AQ Y C) (Jb Y C)
abbrev kX(X:CX)(q:Nat->List QE)(B:Nat->List (List UInt8)):bT:=two (nZ (∀i,(q i).map (λx=>x.2.2)=B i)) (kE 132 X.p X.pb X.c q)
abbrev NU(X:CX)(Y:CY)(C:CS)(i:Nat):bT:=two (rb i (Y.m i).b (Y.m i).l (Y.m i).vb (Y.m i).ra (Y.m i).rc (C.S i)) (two (nT (Y.m i).ra (Y.m i).rc (C.S i).aX)
 (two (nZ (Cm (C.S i).D (C.S i).cnt (C.S i).used)) (lg (Y.m i).l (X.d i) (X.mr i) (Y.m i).wb (C.S i).D (C.S i).cnt (C.S i).used)))
structure Hd (D:DS):Prop where
 ok:xJ D
 rest:D.down=true∨D.waits=[]
 w:D.waits.length<=3000
abbrev TK(X:CX)(Y:CY)(C:CS)(i:Nat):bT:=two (nZ (Hd (C.S i).D)) (fB (X.d i) (X.mr i) (Y.m i).wb (C.S i).D)
def dm(X:CX)(Y:CY)(C:CS)(i:Nat):bT:=if C.up i=true then NU X Y C i else TK X Y C i
abbrev fH(Y:CY)(C:CS)(i:Nat):bT:=nT (Y.m i).pa (Y.m i).pc (C.past i)
def bF(X:CX)(Y:CY)(C:CS):bT:=two (kX X Y.q C.B) (two (blk X.cb 86 (bC X Y C)) (two (gY (List.range 5) (dm X Y C)) (gY (List.range 5) (fH Y C))))
def rx(X:CX)(Y:CY)(C:CS)(i:Nat):RX:=⟨i,(Y.m i).b,(Y.m i).l,X.d i,X.mr i,X.p,X.cb,X.pb,X.c,bC X Y C⟩
def ry(Y:CY)(i:Nat):RY:=⟨(Y.m i).wb,(Y.m i).vb,(Y.m i).ra,(Y.m i).rc,Y.q⟩
def rs(C:CS)(i:Nat):RS:={C.S i with B:=C.B}
def BK(Y:CY)(i:Nat)(y:RY):CY:=⟨gV Y.m i {Y.m i with wb:=y.wb,vb:=y.vb,ra:=y.ra,rc:=y.rc},y.q⟩
def nC(C:CS)(i:Nat)(S:RS):CS:={C with S:=gV C.S i S,B:=S.B}
theorem aaF(X Y C){i}(hi:i<5):Bd (rx X Y C i):=⟨hi,rfl,zt _ _ _ _ hi⟩
theorem F8(Y i y j):((BK Y i y).m j).b=(Y.m j).b∧((BK Y i y).m j).pa=(Y.m j).pa∧((BK Y i y).m j).pc=(Y.m j).pc∧((BK Y i y).m j).l=(Y.m j).l:=by
 unfold BK gV;grind
theorem QX(X Y C i y S):bC X (BK Y i y) (nC C i S)=bC X Y C:=by
 refine lS (λ_ _=>rfl) (λj _=>?_) (λj _=>?_)
 ·unfold AQ;rw[(F8 Y i y j).1];rfl
 ·unfold Jb;rw[(F8 Y i y j).2.1,(F8 Y i y j).2.2.1];rfl
section
variable {T:List Nat}{w0 w w':World}{m m':List bT}{X:CX}{Y:CY}{C:CS}{i:Nat}
theorem nV(h:Inv T w0 w (bF X Y C::m)):Inv T w0 w (gY (List.range 5) (dm X Y C)::kX X Y.q C.B::blk X.cb 86 (bC X Y C)::gY (List.range 5) (fH Y C)::m):=
 h.turn (λhs y hy=>by
  obtain⟨h1,h2,h3,h4⟩:=hs (bF X Y C) SI
  grind) (by
  grind[owned,bF,two])
theorem rX(h:Inv T w0 w (gY (List.range 5) (dm X Y C)::kX X Y.q C.B::blk X.cb 86 (bC X Y C)::gY (List.range 5) (fH Y C)::m)):Inv T w0 w (bF X Y C::m):=
 h.turn (λhs y hy=>by
  rcases List.mem_cons.1 hy with rfl|hy
  ·exact⟨hs _ SI,hs _ SI,hs _ SI,hs _ SI⟩
  grind) (by
  grind[owned,bF,two])
theorem aaG{S}(h:bB S)(B):bB {S with B:=B}:=⟨h.view,h.own,h.aT,h.sl,h.acc,h.book,h.told,h.last,h.aB⟩
theorem tQ{i}(hi:i<5):i∈List.range 5:=by grind
theorem F9(hi:i<5)(hu:C.up i=true)(h:Inv T w0 w (bF X Y C::m)):Inv T w0 w (aj (rx X Y C i) (ry Y i) (rs C i)::gY ((List.range 5).erase i) (dm X Y C)::gY (List.range 5) (fH Y C)::m):=by
 have h1:=(nV h).pull (tQ hi) aU.here;rw[show dm X Y C i=NU X Y C i from if_pos hu]at h1;exact h1.turn (λhs y hy=>by
  obtain⟨h1,h2,h3⟩:=hs (NU X Y C i) SI;simp only[List.mem_cons]at hy;rcases hy with rfl|rfl|rfl|hy
  ·exact⟨⟨aaG h1.1 _,h1.2.1,h1.2.2⟩,h2,h3,hs (kX X Y.q C.B) SI,hs (blk X.cb 86 (bC X Y C)) SI⟩
  all_goals grind) (by
  rw[List.perm_iff_count];simp only[owned,List.flatMap_cons,List.count_append,two,rx,ry,rs,nZ,blk,List.count_nil];omega)
theorem aaH(X Y C){i j}(h:j≠i)(y S):dm X (BK Y i y) (nC C i S) j=dm X Y C j:=by
 simp_all[BK,bI,nC,dm,NU,TK]
theorem NW(X Y C i y S)(hu:C.up i=true):dm X (BK Y i y) (nC C i S) i=two (rb i (Y.m i).b (Y.m i).l y.vb y.ra y.rc S) (two (nT y.ra y.rc S.aX)
  (two (nZ (Cm S.D S.cnt S.used)) (lg (Y.m i).l (X.d i) (X.mr i) y.wb S.D S.cnt S.used))):=by
 simp_all[BK,bE,nC,dm,NU]
theorem Wi(Y C i y S):fH (BK Y i y) (nC C i S)=fH Y C:=by
 funext j;unfold fH;rw[(F8 Y i y j).2.1,(F8 Y i y j).2.2.1];rfl
theorem UE(hi:i<5)(hu:C.up i=true){y S}(h:Inv T w0 w (aj (rx X Y C i) y S::gY ((List.range 5).erase i) (dm X Y C)::gY (List.range 5) (fH Y C)::m)):Inv T w0 w (bF X (BK Y i y) (nC C i S)::m):=by
 refine rX ?_;rw[QX,Wi];have h1:Inv T w0 w (dm X (BK Y i y) (nC C i S) i::gY ((List.range 5).erase i) (dm X Y C)::kX X y.q S.B::blk X.cb 86 (bC X Y C)::gY (List.range 5) (fH Y C)::m):=by
  rw[NW X Y C i y S hu];exact h.turn (λhs z hz=>by
   obtain⟨h1,h2,h3,h4,h5⟩:=hs (aj (rx X Y C i) y S) SI;simp only[List.mem_cons]at hz;rcases hz with rfl|rfl|rfl|rfl|rfl|hz
   ·exact⟨h1,h2,h3⟩
   ·grind
   ·exact h4
   ·exact h5
   all_goals grind) (by
   grind[owned,two,rx])
 exact h1.push List.nodup_range (tQ hi) rfl (λj _ hj=>aaH X Y C hj y S) aU.here
theorem ahR(hI:Inv T w0 w m)(hm:bF X Y C∈m):w.heap[X.cb]? =some (.cells (bC X Y C).toArray 86 (0,0)):=(hI.sat _ hm).2.1
theorem fw{P a dst x}{t ty off:Nat}{pos af gd v}(hI:Inv T w0 w m)(hx:a.eval x=.pointer (some ⟨X.cb,off,none⟩))(hm:bF X Y C∈m)(hT:iY P t)(hv:(bC X Y C)[off]? =some v):
  gu P ⟨dst,.load t x,ty,pos,af,gd⟩ a w v:=by
 unfold gu execOp;simp only[hx,Instr.loadAt,Instr.sureAddr,Sem.run_bind,Sem.run_pure,Result.andThen_ok,ik (v:=v) hT (ahR hI hm) off hv]
theorem rC{Y C i}(h:C.up i=true):AQ Y C i=.pointer (some ⟨(Y.m i).b,0,none⟩):=if_pos h
theorem F_{Y C i}(h:C.up i=false):AQ Y C i=.pointer none:=if_neg (by simp[h])
theorem acF(hi:i<5)(hI:Inv T w0 w m)(hm:bF X Y C∈m):(fB (X.d i) (X.mr i) (Y.m i).wb (C.S i).D).sat w:=by
 have h:=(hI.sat _ hm).2.2.1 i (tQ hi);unfold dm at h
 split at h
 ·exact h.2.2.2.2
 ·exact h.2
theorem Ga(hi:i<5)(hI:Inv T w0 w m)(hm:bF X Y C∈m):Hd (C.S i).D∧(C.up i=true->Cm (C.S i).D (C.S i).cnt (C.S i).used∧bB (C.S i)):=by
 have h:=(hI.sat _ hm).2.2.1 i (tQ hi);unfold dm at h
 split at h
 ·exact⟨⟨h.2.2.1.ok,h.2.2.1.rest,by have:=h.2.2.1.w60;omega⟩,λ_=>⟨h.2.2.1,h.1.1⟩⟩
 ·rename_i hu;exact⟨h.1,λh=>absurd h hu⟩
end
end
section
open A (QE kE bU)
theorem jC(w0)(cb i:Nat)(hi:i<5):Calls prog 38 #[.pointer (some ⟨cb,0,none⟩),.int .i64 (i:Int)] w0 λe w'=>e=.returned (.bool true)∧w'=w0:=by
 have h1:decide ((0:Int)<=(i:Int))=true:=by simp
 have h2:decide ((i:Int) <5)=true:=by simp;omega
 exact W76
theorem Wj(w0 cb z)(hz:z<0∨5<=z):Calls prog 38 #[.pointer (some ⟨cb,0,none⟩),.int .i64 z] w0 λe w'=>e=.returned (.bool false)∧w'=w0:=by
 by_cases h0:z<0
 ·have h1:decide ((0:Int)<=z)=false:=by simp;omega
  exact W76
 ·have h1:decide ((0:Int)<=z)=true:=by simp;omega
  have h2:decide (z<5)=false:=by simp;omega
  exact W76
def nM(C:CS)(i:Nat):Bool:=C.up i&& !(C.S i).D.down
theorem iL(X Y C):(bC X Y C)[0]? =some (.pointer (some ⟨X.p,0,none⟩)):=rfl
section
variable {T:List Nat}{w0 w:World}{m:List bT}{X:CX}{Y:CY}{C:CS}{i:Nat}
theorem zT(hi:i<5)(hI:Inv T w0 w m)(hm:bF X Y C∈m)(b)(hb:Hid (nM C i=b)):Calls prog 33 #[.pointer (some ⟨X.cb,0,none⟩),.int .i64 (i:Int)] w λe w'=>e=.returned (.bool b)∧w'=w:=by
 have h1:decide ((0:Int)<=(i:Int))=true:=by simp
 have h2:decide ((i:Int) <5)=true:=by simp;omega
 have hcd:(bC X Y C)[1+i]? =some (.pointer (some ⟨X.d i,0,none⟩)):=zt _ _ _ _ hi;cases hu:C.up i
 ·have hcm:(bC X Y C)[6+i]? =some (.pointer none):=by rw[<-F_ (Y:=Y) hu];exact tF _ _ _ _ hi
  obtain rfl:b=false:=by rw[<-hb.out,nM,hu];rfl
  go_enter func33,ntmps33;go_wp2_with(first|refine YL ?_|with_reducible refine av (fw hI RF hm aQ.out hcm) ?_|go_at_call 38;refine KR (jC _ _ i hi) ?_);go_ret;exact⟨rfl,rfl⟩
 ·have hcm:(bC X Y C)[6+i]? =some (.pointer (some ⟨(Y.m i).b,0,none⟩)):=by rw[<-rC (Y:=Y) hu];exact tF _ _ _ _ hi
  obtain⟨dn,ahS⟩:=EQ ((C.S i).D.down);obtain rfl:b= !dn:=by rw[<-hb.out,nM,hu,ahS];rfl
  have hdn:=HD ahS;clear ahS hb;cases dn
  ·exact W43
  ·exact W43
theorem iM(hi:i<5)(hI:Inv T w0 w m)(hm:bF X Y C∈m):Calls prog 13 #[.pointer (some ⟨X.cb,0,none⟩),.int .i64 (i:Int)] w λe w'=>e=.returned (if nM C i=true then .pointer (some ⟨(Y.m i).b,0,none⟩)else .pointer none)∧w'=w:=by
 have h1:decide ((0:Int)<=(i:Int))=true:=by simp
 have h2:decide ((i:Int) <5)=true:=by simp;omega
 cases lX:nM C i
 ·have hub:=HD lX
  rw[if_neg SI];clear lX;go_enter func13,ntmps13;go_wp2_with(go_at_call 33;refine KR (zT hi hI hm _ hub) ?_);go_ret;exact⟨rfl,rfl⟩
 ·have hub:=HD lX
  have hu:C.up i=true:=by rw[nM,Bool.and_eq_true]at lX;exact lX.1
  have hcm:(bC X Y C)[6+i]? =some (.pointer (some ⟨(Y.m i).b,0,none⟩)):=by rw[<-rC (Y:=Y) hu];exact tF _ _ _ _ hi
  rw[if_pos rfl];clear lX;go_enter func13,ntmps13;go_wp2_with(first|go_at_call 33;refine KR (zT hi hI hm _ hub) ?_|with_reducible refine av (fw hI RF hm aQ.out hcm) ?_);go_ret;exact⟨rfl,rfl⟩
theorem ad5(hi:i<5)(hI:Inv T w0 w m)(hm:bF X Y C∈m):Calls prog 59 #[.pointer (some ⟨X.cb,0,none⟩),.int .i64 (i:Int)] w λe w'=>e=.returned (.pointer (some ⟨X.d i,0,none⟩))∧w'=w:=by
 have h1:decide ((0:Int)<=(i:Int))=true:=by simp
 have h2:decide ((i:Int) <5)=true:=by simp;omega
 have hcd:(bC X Y C)[1+i]? =some (.pointer (some ⟨X.d i,0,none⟩)):=zt _ _ _ _ hi;go_enter func59,ntmps59;go_wp2_with(first|go_at_call 38;refine KR (jC _ _ i hi) ?_|with_reducible refine av (fw hI RF hm aQ.out hcd) ?_);go_ret;exact⟨rfl,rfl⟩
end
end
section
open A (QE kE bU)
section
variable (w0:World)(p:Nat)(pb c:Nat->Nat)(q:Nat->List QE){i:Nat}(wz:i∈bU)(h:Inv (kE 132 p pb c q).own w0 w0 [kE 132 p pb c q])
include wz h
theorem aj9(a0 c0 b0)(qt:List QE)(hq:q i=(a0,c0,b0)::qt)(hcap:qt.length<8)(hl:b0.length<=100000):
  Calls prog 74 #[.pointer (some ⟨pb i,0,none⟩)] w0 λe w'=>e=.returned (.bool true)∧∃a1 c1,Inv (kE 132 p pb c q).own w0 w' [kE 132 p pb c (gV q i (qt++[(a1,c1,b0)]))]:=by
 have hI:=A.Vd h wz
 grind[A.ac8,Inv.sat,Inv.nd,Go.Calls.mono,A.Ve,Inv.on,aU.here]
theorem ahT(q0 qt)(hq:q i=q0::qt)(hcap:(q0::qt).length <8)(hl:q0.2.2.length<=100000):
  Calls prog 73 #[.pointer (some ⟨pb i,0,none⟩)] w0 λe w'=>e=.returned (.bool true)∧∃a1 c1,Inv (kE 132 p pb c q).own w0 w' [kE 132 p pb c (gV q i ((q0::qt)++[(a1,c1,q0.2.2)]))]:=by
 have hI:=A.Vd h wz
 grind[A.PY,Inv.sat,Inv.nd,Go.Calls.mono,A.Ve,Inv.on,aU.here]
theorem ad6(hq:(q i).length=8):Calls prog 73 #[.pointer (some ⟨pb i,0,none⟩)] w0 λe w'=>e=.returned (.bool false)∧w'=w0:=
 A.YP w0 (pb i) (c i) 8 (q i) ((A.Vd h wz).sat _ aC) (.inr ⟨by omega,hq⟩)
end
section
variable {T:List Nat}{w0 w w':World}{m m':List bT}{X:CX}{Y:CY}{C:CS}
theorem dQ(hI:Inv T w0 w m)(hm:bF X Y C∈m):Inv (kE 132 X.p X.pb X.c Y.q).own w w [kE 132 X.p X.pb X.c Y.q]:=kG (sW hI hm) aC
theorem xg(hI:Inv T w0 w m)(hm:bF X Y C∈m):∀i,(Y.q i).map (λx=>x.2.2)=C.B i:=(hI.sat _ hm).1.1
theorem Dn(hI:Inv T w0 w m){q' B'}(hu:aU (bF X Y C) (bF X {Y with q:=q'} {C with B:=B'}) m m')
  (hJ:Inv (kE 132 X.p X.pb X.c Y.q).own w w' [kE 132 X.p X.pb X.c q']) (hB:∀i,(q' i).map (λx=>x.2.2)=B' i):Inv T w0 w' m':=by
 have h1:Inv (kX X Y.q C.B).own w w [kX X Y.q C.B]:=sW hI hu.mem;have h2:Inv (kX X Y.q C.B).own w w' [kX X q' B']:=((h1.dR.on hJ jo).IE (λ_=>hB)).eX;exact Am (x':=kX X q' B') hI h2 hu
theorem AR{z}(hI:Inv T w0 w m){q' B'}(hu:aU (bF X Y C) (bF X {Y with q:=q'} {C with B:=B'}) m m')
  (hJ:Inv (kE 132 X.p X.pb X.c Y.q).own w w' [z,kE 132 X.p X.pb X.c q']) (hB:∀i,(q' i).map (λx=>x.2.2)=B' i):Inv T w0 w' (z::m'):=by
 have h0:=hI.at_ hu.mem;have h1:Inv (bF X Y C).own w w [kX X Y.q C.B,two (blk X.cb 86 (bC X Y C)) (two (gY (List.range 5) (dm X Y C)) (gY (List.range 5) (fH Y C)))]:=h0.dR;have h2:=h1.dR;have h3:=h2.Uu hJ jo;have h4:Inv (bF X Y C).own w w' [z,bF X {Y with q:=q'} {C with B:=B'}]:=h3.turn (λhs y hy=>by
  simp only[List.mem_cons,List.not_mem_nil,or_false]at hy;rcases hy with rfl|rfl
  ·grind
  ·exact⟨⟨hB,hs (kE 132 X.p X.pb X.c q') SI⟩,hs (two (blk X.cb 86 (bC X Y C)) (two (gY (List.range 5) (dm X Y C)) (gY (List.range 5) (fH Y C)))) SI⟩) (by
  show(owned [z,two (kX X q' B') (two (blk X.cb 86 (bC X Y C)) (two (gY (List.range 5) (dm X Y C)) (gY (List.range 5) (fH Y C))))]).Perm _
  grind[owned,two,nZ])
 grind[Inv.Uu]
theorem tq{q:Nat->List QE}{B}(hB:∀i,(q i).map (λx=>x.2.2)=B i)(i v u)(h:v.map (λx=>x.2.2)=u):∀j,(gV q i v j).map (λx=>x.2.2)=gV B i u j:=λj=>by
 grind[gV]
end
def pU(C:CS)(QY:Bool)(f t:Nat)(b:List UInt8):CS×Int:=
 match A.dJ (UInt8.ofNat f) (UInt8.ofNat t) b with
 |none=>(C,0)
 |some bs=>if QY=true∨nM C t=false then(C,0)else match lZ bs with
  |none=>(C,1)
  |some M=>(nC C t (kr t (rs C t) f M),0)
def vJ(C:CS)(kind:Int)(f t:Nat)(n:Int):CS×Int:=
 match C.B (f*5+t)with
 | []=>(C,10)
 |b0::bt=>
  if kind=7 then(if bt.length+1=8 then(C,3)else({C with B:=gV C.B (f*5+t) ((b0::bt)++[b0])},0))
  else
   let k:=((max n 0) % ((bt.length+1:Nat):Int)).toNat
   match(b0::bt).drop k++(b0::bt).take k with
   | []=>(C,0)
   |b::r=>pU {C with B:=gV C.B (f*5+t) r} (decide (kind=6)) f t b
end
section
open B (eu)
theorem Rb:eu.length=7:=by rfl
theorem Rec.aet{x:Rec}(hx:x.Len):x.nX.length=189:=by
 have n1:=ag 174;have n2:=ag 2;have n3:=ag 3;have n7:=ag 7;cases x with
 |row r=>exact ed hx n2 n3 n7
 |cz i r=>exact ed hx.2 n2 n3 n7
 |aZ i=>exact ed n1 n2 n3 n7
 |qH e bl=>exact ed n1 hx n3 n7
 |take e bl c=>exact ed n1 hx.1 hx.2 n7
 |view v=>exact ed n1 n2 n3 hx
theorem Rc{x:Rec}(h:x.Ok):x.Len:=by
 cases x with
 |row r=>exact h.1
 |cz i r=>exact⟨h.1,h.2.1⟩
 |aZ i=>exact h
 |qH e bl=>exact h.2.1
 |take e bl c=>exact⟨h.2.1.1,h.2.2.1⟩
 |view v=>exact h.1
theorem WA{T w0 w rs m r}(h:Inv T w0 w (oQ (r::rs)::m)):Inv T w0 w (r::oQ rs::m):=
 h.turn (λhs y hy=>by
  have h1:=hs (oQ (r::rs)) SI;rcases List.mem_cons.1 hy with rfl|hy
  ·exact h1 _ SI
  rcases List.mem_cons.1 hy with rfl|hy
  ·intro q hq;exact h1 q (by simp[hq])
  grind) (by simp[owned,oQ])
section
variable (w0:World)(f d mr:Nat)(wb:Option Nat)(D:DS)(B:Nat->List (List UInt8))(hD:xJ D)(hwl:D.waits.length<=50000)(hE:Ae (dU D))(hI:Inv (fB d mr wb D).own w0 w0 [fB d mr wb D])
include hI hD hwl hE
theorem Og(D' er)(h:dJ D=(none,D',er)):Calls prog 37 #[.int .i64 (f:Int),.pointer (some ⟨d,0,none⟩)] w0 λe w'=>∃nu,e=.returned (.tuple #[.pointer none,.int .i64 er])∧Inv (fB d mr wb D).own w0 w' [fB d mr nu D']:=by
 have he:=Ja (by rw[h]);rw[h]at he;have hq:(er != 0)=true:=by simpa using he
 have ho:=HD h;clear h he;go_enter func37,ntmps37;go_wp2_with(go_at_call 63;refine KG hI (ad2 _ d mr _ D (hI.at_ aC) hD hwl hE _ _ ho.out) ?_;intro Je w1 hI);exact bodyPost_ret (results_tmp2 rfl _ _ _) rfl ⟨Je,rfl,hI⟩
theorem UF(bs cnt used D' er)(h:dJ D=(some (bs,cnt,used),D',er)):
  Calls prog 37 #[.int .i64 (f:Int),.pointer (some ⟨d,0,none⟩)] w0 λe w'=>∃nu,
   (dz (r_ D' cnt used B) bs=none∧e=.returned (.tuple #[.pointer none,.int .i64 1])∧Inv (fB d mr wb D).own w0 w' [fB d mr nu D'])∨
   (∃b l S,dz (r_ D' cnt used B) bs=some S∧e=.returned (.tuple #[.pointer (some ⟨b,0,none⟩),.int .i64 0])∧Inv (fB d mr wb D).own w0 w' [two (rb f b l 0 none 0 S) (nZ True),fB d mr nu D',blk l 185 (lcs d cnt used)]):=by
 have ho:=HD h;clear h;obtain⟨R,hR⟩:=EH (dz (r_ D' cnt used B) bs);rw[hR.out];go_enter func37,ntmps37;go_wp2_with(first|go_at_call 63;(with_reducible refine(aaD _ d mr _ D (hI.at_ aC) hD hwl hE _ _ _ _ _ ho.out).mono ?_);rintro e w1 ⟨Je,l,sa,sc,els,hB,rfl,hJ⟩;replace hI:=hI.on hJ jR;clear hJ|with_reducible refine aj5 D' cnt used B RF RF ?_|(with_reducible refine bX hI RF ?_);intro b w1 hI;replace hI:=ahM hI (aaB D' cnt used B) rfl|go_at_call 31;refine KD hI (Go.Proofs.YtdakkaapokhnnaaGreatDoor.B.pF _) ?_;intro w1 hI|go_at_call 64;refine KC jR hI (Ku _ _ _ _ _ _ _ _ _ _ Rb (hI.at_ aC)) ?_;intro w1 hI);have hbl:bs.length<=els.length:=by rw[<-hB.out,PQ,List.length_map];exact Nat.le_refl _
 replace hI:=hI.perm (m':=[two (fB d mr Je D') (two (bss sa sc els) (blk l 185 (lcs d cnt used))),two (rb f b l 0 none 0 (r_ D' cnt used B)) (nZ True)]) (List.Perm.swap _ _ _);replace hI:=hI.dR;replace hI:=hI.perm (m':=[two (bss sa sc els) (blk l 185 (lcs d cnt used)),fB d mr Je D',two (rb f b l 0 none 0 (r_ D' cnt used B)) (nZ True)]) (List.Perm.swap _ _ _);replace hI:=Bo hI.dR
 go_loopg [34] els.length (λkk s34 wr=>∃(k:Nat) (S:RS),kk=els.length-k∧k<=els.length∧s34=.int .i64 (k:Int)∧Hid (dz (r_ D' cnt used B) bs=dz S (bs.drop k))∧Inv (fB d mr wb D).own w0 wr [bD 63 1 (.slice sa els.length sc) els.length (els.map sv),oQ ((els.drop k).map eo),blk l 185 (lcs d cnt used),fB d mr Je D',two (rb f b l 0 none 0 S) (nZ True)])
 case atStart=>exact⟨0,r_ D' cnt used B,rfl,by omega,rfl,HD SI,hI⟩
 case round=>
  clear hI;obtain⟨k,S,rfl,hk,rfl,hS,hI⟩:=hrel;by_cases hke:k=els.length
  ·subst hke
   have hd3:decide ((els.length:Int) < (els.length:Int))=false:=by simp
   have hRS:R=some S:=by rw[<-hR.out,hS.out,List.drop_of_length_le OM,dz]
   subst hRS;clear hR hS;go_wp2_with(fail);refine bodyPost_ret (results_tmp2 rfl _ _ _) rfl ⟨Je,.inr ⟨b,l,S,rfl,rfl,?_⟩⟩;exact(hI.sub (.cons _ (.cons _ (.refl _)))).perm (m':=[two (rb f b l 0 none 0 S) (nZ True),fB d mr Je D',blk l 185 (lcs d cnt used)]) (List.reverse_perm [blk l 185 (lcs d cnt used),fB d mr Je D',two (rb f b l 0 none 0 S) (nZ True)])
  ·have hkl:k<els.length:=by omega
   have hd3:decide ((k:Int) < (els.length:Int))=true:=by simp;omega
   obtain⟨⟨pa,pc,pb⟩,hp⟩:∃p,els[k]? =some p:=⟨_,List.getElem?_eq_getElem OM⟩;have hsk:bs[k]? =some pb:=by rw[<-hB.out,PQ,List.getElem?_map,hp];rfl
   have hld:(els.map sv)[k]? =some (.slice pa pb.length pc):=by rw[List.getElem?_map,hp];rfl
   have hdr:bs.drop k=pb::bs.drop (k+1):=by
    obtain⟨h1,h2⟩:=List.getElem?_eq_some_iff.1 hsk;rw[List.drop_eq_getElem_cons h1,h2]
   have akf:els.drop k=(pa,pc,pb)::els.drop (k+1):=by
    obtain⟨h1,h2⟩:=List.getElem?_eq_some_iff.1 hp;rw[List.drop_eq_getElem_cons h1,h2]
   rw[akf,List.map_cons]at hI;replace hI:=WA (hI.perm (m':=[oQ (eo (pa,pc,pb)::(els.drop (k+1)).map eo),bD 63 1 (.slice sa els.length sc) els.length (els.map sv),blk l 185 (lcs d cnt used),fB d mr Je D',two (rb f b l 0 none 0 S) (nZ True)]) (List.Perm.swap _ _ _));obtain⟨ab,hpc,hpm,hI⟩:=ahN hI;obtain⟨ga,rfl⟩:∃ga,sa=some ⟨ga,0,none⟩:=gZ hI (List.mem_cons_of_mem _ (List.mem_cons_of_mem _ (List.mem_cons_self))) (by rw[List.length_map];omega);have hkw:wrap64 ((k:Int)+1)=(k:Int)+1:=by
    obtain⟨_,_,_,_,h1,h2,_⟩:=pg (hI.sat _ (List.mem_cons_of_mem _ (List.mem_cons_of_mem _ (List.mem_cons_self))));simp only[maxLen]at h2;unfold wrap64;omega
   obtain⟨rx,WB⟩:=EQ (nI pb);have hS2:Hid (dz (r_ D' cnt used B) bs=rx.bind λx=>dz (dD S x) (bs.drop (k+1))):=HD (by rw[hS.out,hdr,dz,WB]);clear hdr akf hsk hp hS;cases rx with
   |none=>
    have hrx:Hid (Aq pb=(au 189,1)):=HD (by rw[afE,WB]);have hRN:R=none:=by rw[<-hR.out,hS2.out];rfl
    replace hRN:=HD hRN;clear hR hS2 WB;go_wp2_with(first|with_reducible refine aK hI RF a_ (aQ.out (t:=63)) hld ?_|go_at_call 65;refine KE (Nj hpc hpm hI) ?_;intro w1 hI;(rw[hrx.out])|refine YS ?_;intro w hI|refine YX ?_;intro bx w hI);exact bodyPost_ret (results_tmp2 rfl _ _ _) rfl ⟨Je,.inl ⟨hRN.out,rfl,hI.sub (.cons _ (.cons _ (.cons _ (.cons _ (.cons_cons _ (.cons _ (.refl _)))))))⟩⟩
   |some x=>
    have hrx:Hid (Aq pb=(x.nX,0)):=HD (by rw[afE,WB]);have hxl:x.Len:=Rc (aac WB);have amA:=Rec.aet hxl;clear WB;go_wp2_with(first|with_reducible refine aK hI RF a_ (aQ.out (t:=63)) hld ?_|go_at_call 65;refine KE (Nj hpc hpm hI) ?_;intro w1 hI;(rw[hrx.out])|go_at_call 66;refine KC uu5 hI (V_ _ _ _ _ _ _ _ _ _ _ hxl (hI.at_ mm5)) ?_;intro w1 hI|refine YL ?_|refine YS ?_;intro w hI|refine YX ?_;intro bx w hI);go_roundg (els.length- (k+1))
    case measure=>omega
    case rel=>exact⟨k+1,dD S x,rfl,by omega,(by show Value.int .i64 (wrap64 ((k:Int)+1))=_;rw[hkw];rfl),HD (by rw[hS2.out];rfl),(hI.tl).perm (List.Perm.swap _ _ _)⟩
end
end
section
open A (QE kE bU)
def AX(Y:CY)(i:Nat)(wb:Option Nat):CY:={Y with m:=gV Y.m i {Y.m i with wb:=wb}}
def nJ(C:CS)(i:Nat)(D:DS):CS:={C with S:=gV C.S i {C.S i with D:=D}}
theorem Gl(Y i wb j):((AX Y i wb).m j).b=(Y.m j).b∧((AX Y i wb).m j).pa=(Y.m j).pa∧((AX Y i wb).m j).pc=(Y.m j).pc:=by
 unfold AX gV;grind
theorem Gm(X Y C i wb D):bC X (AX Y i wb) (nJ C i D)=bC X Y C:=by
 refine lS (λ_ _=>rfl) (λj _=>?_) (λj _=>?_)
 ·unfold AQ;rw[(Gl Y i wb j).1];rfl
 ·unfold Jb;rw[(Gl Y i wb j).2.1,(Gl Y i wb j).2.2];rfl
theorem Oh(X Y C){i j}(h:j≠i)(wb D):dm X (AX Y i wb) (nJ C i D) j=dm X Y C j:=by
 simp_all[AX,bI,nJ,dm,NU,TK]
theorem Jf(Y C i wb D):fH (AX Y i wb) (nJ C i D)=fH Y C:=by
 funext j;unfold fH;rw[(Gl Y i wb j).2.1,(Gl Y i wb j).2.2];rfl
theorem Gn{rd}(he:Ae rd):∀n cnt used,cnt<=used->used<=2048->(kL rd n cnt used).2.1<=(kL rd n cnt used).2.2∧(kL rd n cnt used).2.2<=2048
 |0,cnt,used,h1,h2=>⟨h1,h2⟩
 |n+1,cnt,used,h1,h2=>by
  unfold kL;cases hst:jG rd ((cnt:Int)+1) used with
  |none=>grind
  |some x=>
   obtain⟨b,all⟩:=x;obtain⟨e1,e2,e3,e4⟩:=Ce he hst;exact Gn he n (cnt+1) (used+all) OM OM
theorem K8:∀n at_ D,xJ D->at_+n<=2048->xJ (ek D at_ n).1∧(ek D at_ n).1.waits.length<=D.waits.length+n∧((ek D at_ n).2≠0->(ek D at_ n).1.down=true)∧(D.down=true->(ek D at_ n).1.waits=D.waits∧(ek D at_ n).1.down=true)
 |0,at_,D,h,_=>⟨h,by simp[ek],λh=>absurd rfl h,λh=>⟨rfl,h⟩⟩
 |n+1,at_,D,h,hb=>by
  unfold ek
  split
  ·obtain⟨a,b,c,d⟩:=K8 n (at_+1) D h OM
   grind
  ·have hw:bA D at_ []=if D.down=true∨(D.armed=true∧D.left=0)then({D with down:=true},4)else({D with left:=if D.armed then D.left-1 else D.left,waits:=D.waits++[((at_:Int),pad [])]},0):=by
    unfold bA;grind
   have hok:=xK h (at_:Int) (bs:=[]);by_cases hd:D.down=true∨(D.armed=true∧D.left=0)
   ·grind
   ·obtain⟨a,b,c,d⟩:=K8 n (at_+1) _ hok OM
    grind
theorem aeu{D}(h:Hd D)(hE:Ae (dU D)):Hd (dJ D).2.1∧∀bs cnt used,(dJ D).1=some (bs,cnt,used)->Cm (dJ D).2.1 cnt used:=by
 obtain⟨b1,b2⟩:=Gn hE 2049 0 0 (Nat.le_refl _) OM;obtain⟨a,b,c,d⟩:=K8 (2048- (kL (dU D) 2049 0 0).2.2) (kL (dU D) 2049 0 0).2.2 D h.ok OM;have hw:=h.w;have hwb:(ek D (kL (dU D) 2049 0 0).2.2 (2048- (kL (dU D) 2049 0 0).2.2)).1.waits.length<=3000:=by
  grind[Hd.rest]
 unfold dJ;dsimp only;generalize ek D (kL (dU D) 2049 0 0).2.2 (2048- (kL (dU D) 2049 0 0).2.2)=v at*
 split
 ·have hq:cZ v.1=if v.1.down then(v.1,4)else({v.1 with sure:=lF v.1.sure v.1.waits,waits:=[]},0):=rfl
  have hok:=EF a;by_cases hdn:v.1.down=true
  ·rw[if_pos hdn]at hq
   rw[hq,if_neg SI];exact⟨⟨a,.inl hdn,hwb⟩,λbs cnt used hh=>by cases hh⟩
  ·rw[if_neg hdn]at hq
   rw[hq]at hok;rw[hq,if_pos rfl];refine⟨⟨hok,.inr rfl,by simp⟩,λbs cnt used hh=>?_⟩;simp only[Option.some.injEq]at hh;rw[hh]at b1 b2;exact⟨hok,b1,b2,by simp,.inr rfl⟩
 ·rename_i hv
  exact⟨⟨a,.inl (c hv),hwb⟩,λbs cnt used hh=>by cases hh⟩
theorem mq:∀l S S',dz S l=some S'->S'.D=S.D∧S'.cnt=S.cnt∧S'.used=S.used∧S'.aX=S.aX∧S'.B=S.B
 | [],S,S',h=>by cases h;grind
 |b::l,S,S',h=>by
  obtain⟨x,hx,h2⟩:=Option.bind_eq_some_iff.1 h;obtain⟨h3,h4,h5,h6,h7⟩:=mq l _ S' h2;cases x<;>exact⟨h3,h4,h5,h6,h7⟩
section
variable {T:List Nat}{w0 w w':World}{m m':List bT}{X:CX}{Y:CY}{C:CS}{i:Nat}
theorem K9(hi:i<5)(hu:C.up i=false)(hI:Inv T w0 w m)(hm:bF X Y C∈m):Inv (fB (X.d i) (X.mr i) (Y.m i).wb (C.S i).D).own w w [fB (X.d i) (X.mr i) (Y.m i).wb (C.S i).D]:=by
 have h:=(nV (hI.at_ hm)).pull (tQ hi) aU.here;rw[show dm X Y C i=TK X Y C i from if_neg (by simp[hu])]at h
 grind[kG]
theorem Re(hi:i<5)(hu:C.up i=false)(hI:Inv T w0 w m){wb D}(hup:aU (bF X Y C) (bF X (AX Y i wb) (nJ C i D)) m m')(hJ:Inv (fB (X.d i) (X.mr i) (Y.m i).wb (C.S i).D).own w w' [fB (X.d i) (X.mr i) wb D])(hD:Hd D):Inv T w0 w' m':=by
 refine hI.on ?_ hup;have h:=(nV (hI.at_ hup.mem)).pull (tQ hi) aU.here;rw[show dm X Y C i=TK X Y C i from if_neg (by simp[hu])]at h;have h2:=xS h hJ jR;have h3:=(h2.dR.IE (q:=Hd D) (λ_=>hD)).eX;refine rX ?_;rw[Gm,Jf];refine h3.push List.nodup_range (tQ hi) ?_ (λj _ hj=>Oh X Y C hj wb D) aU.here;unfold dm
 simp_all[nJ,two,AX,bE]
def Jg(Y:CY)(i b l:Nat)(wb:Option Nat):CY:={Y with m:=gV Y.m i {Y.m i with b:=b,l:=l,vb:=0,rc:=0,ra:=none,wb:=wb}}
def zu(C:CS)(i:Nat)(S:RS):CS:={C with up:=gV C.up i true,S:=gV C.S i S}
theorem Rf(X Y C){i j}(h:j≠i)(b l wb S):dm X (Jg Y i b l wb) (zu C i S) j=dm X Y C j:=by
 simp_all[Jg,bI,zu,dm,NU,TK]
theorem Rh(X Y C i b l wb S)(hr:S.aX=[]):dm X (Jg Y i b l wb) (zu C i S) i=two (rb i b l 0 none 0 S) (two (nT none 0 []) (two (nZ (Cm S.D S.cnt S.used)) (lg l (X.d i) (X.mr i) wb S.D S.cnt S.used))):=by
 simp_all[Jg,bE,zu,dm,NU]
theorem aa7(Y C i b l wb S):fH (Jg Y i b l wb) (zu C i S)=fH Y C:=by
 funext j;have e:((Jg Y i b l wb).m j).pa=(Y.m j).pa∧((Jg Y i b l wb).m j).pc=(Y.m j).pc:=by
  unfold Jg gV;grind
 unfold fH;rw[e.1,e.2];rfl
theorem WC(X Y C){i}(hi:i<5)(b l wb S):splice (bC X Y C) (6+i) [.pointer (some ⟨b,0,none⟩)]=bC X (Jg Y i b l wb) (zu C i S):=by
 unfold bC;rw[BJ _ _ _ _ _ hi];refine lS (λ_ _=>rfl) (λj _=>?_) (λj _=>?_)
 ·by_cases h:j=i
  all_goals simp_all[bE,AQ.eq_1,zu,Jg,bI]
 ·have e:((Jg Y i b l wb).m j).pa=(Y.m j).pa∧((Jg Y i b l wb).m j).pc=(Y.m j).pc:=by
   unfold Jg gV;grind
  unfold Jb;rw[e.1,e.2];rfl
theorem ah_(hi:i<5)(hu:C.up i=false){b l wb S}(hr:S.aX=[])(hL:Cm S.D S.cnt S.used)(hI:Inv (bF X Y C).own w0 w [bF X Y C])(hJ:Inv (fB (X.d i) (X.mr i) (Y.m i).wb (C.S i).D).own w w' [two (rb i b l 0 none 0 S) (nZ True),fB (X.d i) (X.mr i) wb S.D,blk l 185 (lcs (X.d i) S.cnt S.used)]):
  Inv (bF X Y C).own w0 w' [blk X.cb 86 (bC X Y C),dm X (Jg Y i b l wb) (zu C i S) i,gY ((List.range 5).erase i) (dm X Y C),kX X Y.q C.B,gY (List.range 5) (fH Y C)]:=by
 have h:=(nV hI).pull (tQ hi) aU.here;rw[show dm X Y C i=TK X Y C i from if_neg (by simp[hu])]at h;have h2:Inv (bF X Y C).own w0 w (fB (X.d i) (X.mr i) (Y.m i).wb (C.S i).D::gY ((List.range 5).erase i) (dm X Y C)::kX X Y.q C.B::blk X.cb 86 (bC X Y C)::[gY (List.range 5) (fH Y C)]):=h.dR.sub (.cons _ (.refl _));have hJ2:Inv (fB (X.d i) (X.mr i) (Y.m i).wb (C.S i).D).own w w' [two (two (rb i b l 0 none 0 S) (nZ True)) (two (fB (X.d i) (X.mr i) wb S.D) (blk l 185 (lcs (X.d i) S.cnt S.used)))]:=
  (((hJ.perm (m':=[fB (X.d i) (X.mr i) wb S.D,blk l 185 (lcs (X.d i) S.cnt S.used),two (rb i b l 0 none 0 S) (nZ True)]) (List.perm_append_comm (l₁:=[fB (X.d i) (X.mr i) wb S.D,blk l 185 (lcs (X.d i) S.cnt S.used)]) (l₂:=[two (rb i b l 0 none 0 S) (nZ True)]))).eX).jS).eX
 have h3:=h2.on hJ2 jR;rw[Rh X Y C i b l wb S hr];exact h3.turn (λhs y hy=>by
  obtain⟨⟨g1,_⟩,g2,g3⟩:=hs (two (two (rb i b l 0 none 0 S) (nZ True)) (two (fB (X.d i) (X.mr i) wb S.D) (blk l 185 (lcs (X.d i) S.cnt S.used)))) SI;simp only[List.mem_cons,List.not_mem_nil,or_false]at hy;rcases hy with rfl|rfl|rfl|rfl|rfl
  ·grind
  ·exact⟨g1,⟨λr hr=>(by cases hr),by simp[yt],.inl ⟨rfl,rfl⟩⟩,hL,g3,g2⟩
  all_goals grind) (by
  rw[List.perm_iff_count];simp only[owned,List.flatMap_cons,List.count_append,two,nZ,lg,bD,Value.ownBlock,List.flatMap_nil,List.count_nil,Option.toList];omega)
theorem aev(hi:i<5){b l wb S}(h:Inv T w0 w (blk X.cb 86 (bC X (Jg Y i b l wb) (zu C i S))::dm X (Jg Y i b l wb) (zu C i S) i::gY ((List.range 5).erase i) (dm X Y C)::kX X Y.q C.B::gY (List.range 5) (fH Y C)::m)):Inv T w0 w (bF X (Jg Y i b l wb) (zu C i S)::m):=by
 refine rX ?_;rw[aa7];have h2:Inv T w0 w (dm X (Jg Y i b l wb) (zu C i S) i::gY ((List.range 5).erase i) (dm X Y C)::kX X Y.q C.B::blk X.cb 86 (bC X (Jg Y i b l wb) (zu C i S))::gY (List.range 5) (fH Y C)::m):=
  Inv.sink (l1:=[_,_,_]) h
 exact h2.push List.nodup_range (tQ hi) rfl (λj _ hj=>Rf X Y C hj b l wb S) aU.here
end
end
theorem K_{l}(h:∀r∈l,r.length=3):(yt l).length=l.length*3:=by
 induction l with
 |nil=>rfl
 |cons r l ih=>
  grind[yt,j5]
theorem hone(l):∀u∈yt l,u.oneCell'=true:=λu hu=>by
 simp only[yt,List.mem_flatMap,iz,List.mem_map]at hu;obtain⟨r,_,z,_,rfl⟩:=hu;rfl
theorem Inv.zw{T w0 w m}(e size:Nat)(h:Inv T w0 w m):Inv T w0 w (bD e size (.slice none 0 0) 0 []::m):=
 h.turn (λhs z hz=>by
  rcases List.mem_cons.1 hz with rfl|hz
  ·exact⟨by simp,.inl ⟨rfl,rfl⟩⟩
  grind) (by simp[owned,bD,Value.ownBlock])
theorem Oi(w0 f b l vb rc ra S)(hb:w0.heap[b]? =some (.cells (bg f l vb ra rc S).toArray 98 (0,0)))(hL:bB S)(hr:Rd w0 ra (yt S.aX))(h3:∀r∈S.aX,r.length=3)(hn:S.aX.length<=1000000000):
  Calls prog 87 #[.pointer (some ⟨b,0,none⟩)] w0 λe w'=>∃a c,e=.returned (.slice a S.aX.length c)∧Inv [] w0 w' [bD 117 3 (.slice a S.aX.length c) S.aX.length (yt S.aX)]:=by
 have hrx:=HD (K_ h3);obtain⟨A,B,hA,he⟩:=Fa f l vb hL;have hI:=(Inv.start w0).zw 117 3;go_enter func87,ntmps87;go_wp2_with(first|with_reducible refine av (iW RF hb aQ.out hA (he ra rc S.aX)) ?_|(with_reducible refine aA (q:=S.aX.length) hI RF RF (uQ.out (t:=83)) (by intro r';exact aU.here) hr hrx.out (hone S.aX) MX OM ?_;intro a2 c2 w hI));go_ret;simp only[Nat.zero_add,List.nil_append]at hI;exact⟨a2,c2,by simp only[Nat.zero_add];rfl,hI⟩
section
variable {T:List Nat}{w0 w:World}{m:List bT}{X:CX}{Y:CY}{C:CS}{i:Nat}
theorem Oj(hi:i<5)(hI:Inv T w0 w m)(hm:bF X Y C∈m):Rd w (Y.m i).pa (yt (C.past i)):=DW ((hI.sat _ hm).2.2.2 i (tQ hi)).2
theorem xZ(hi:i<5)(hI:Inv T w0 w m)(hm:bF X Y C∈m):∀r∈C.past i,r.length=3:=((hI.sat _ hm).2.2.2 i (tQ hi)).1
theorem vL(hi:i<5)(hu:C.up i=true)(hI:Inv T w0 w m)(hm:bF X Y C∈m):w.heap[(Y.m i).b]? =some (.cells (bg i (Y.m i).l (Y.m i).vb (Y.m i).ra (Y.m i).rc (C.S i)).toArray 98 (0,0))∧bB (C.S i)∧(∀r∈(C.S i).aX,r.length=3)∧Rd w (Y.m i).ra (yt (C.S i).aX):=by
 have h:=(hI.sat _ hm).2.2.1 i (tQ hi);unfold dm at h;rw[if_pos hu]at h;exact⟨h.1.2.1,h.1.1,h.2.1.1,DW h.2.1.2⟩
end
def ji(C:CS)(i:Nat):List (List Int):=C.past i++(if C.up i=true then(C.S i).aX else [])
section
variable (w0:World)(X:CX)(Y:CY)(C:CS)(i:Nat)(hi:i<5)(hI:Inv (bF X Y C).own w0 w0 [bF X Y C])
include hi hI
theorem Ji(hn1:(C.past i).length<=1000000000)(hn2:(C.S i).aX.length<=1000000000):
  Calls prog 43 #[.pointer (some ⟨X.cb,0,none⟩),.int .i64 (i:Int)] w0 λe w'=>∃a c,e=.returned (.slice a (ji C i).length c)∧Inv (bF X Y C).own w0 w' [bD 117 3 (.slice a (ji C i).length c) (ji C i).length (yt (ji C i)),bF X Y C]:=by
 have h1:decide ((0:Int)<=(i:Int))=true:=by simp
 have h2:decide ((i:Int) <5)=true:=by simp;omega
 have hpx:=HD (K_ (xZ hi hI aC));have hcp:(bC X Y C)[11+i]? =some (.slice (Y.m i).pa (C.past i).length (Y.m i).pc):=ahQ _ _ _ _ hi;obtain⟨ub,hu0⟩:=EQ (C.up i);cases ub
 ·have hcm:(bC X Y C)[6+i]? =some (.pointer none):=by rw[<-F_ (Y:=Y) hu0];exact tF _ _ _ _ hi
  have hF:Hid (ji C i=C.past i):=HD (by rw[ji,hu0];simp);rw[hF.out];clear hu0;replace hI:=hI.zw 117 3;go_enter func43,ntmps43;go_wp2_with(first|go_at_call 38;refine KR (jC _ _ i hi) ?_|with_reducible refine av (fw hI RF aM aQ.out hcm) ?_|with_reducible refine av (fw hI RF aM aQ.out hcp) ?_|(with_reducible refine aA (n:=0) (q:=(C.past i).length) hI RF RF (uQ.out (t:=83)) (by intro r';exact aU.here) (Oj hi hI aM) hpx.out (hone (C.past i)) MX OM ?_;intro a1 c1 w hI;simp only[Nat.zero_add,List.nil_append]at hI;simp only[Nat.zero_add]));go_ret;exact⟨a1,c1,rfl,hI⟩
 ·have hcm:(bC X Y C)[6+i]? =some (.pointer (some ⟨(Y.m i).b,0,none⟩)):=by rw[<-rC (Y:=Y) hu0];exact tF _ _ _ _ hi
  have hF:Hid (ji C i=C.past i++(C.S i).aX):=HD (by rw[ji,if_pos hu0]);rw[hF.out];have hsx:=HD (K_ (vL hi hu0 hI aC).2.2.1);have hu:=HD hu0;clear hu0;replace hI:=hI.zw 117 3;go_enter func43,ntmps43;go_wp2_with(first|go_at_call 38;refine KR (jC _ _ i hi) ?_|with_reducible refine av (fw hI RF aM aQ.out hcm) ?_|with_reducible refine av (fw hI RF aM aQ.out hcp) ?_|(with_reducible refine aA (n:=0) (q:=(C.past i).length) hI RF RF (uQ.out (t:=83)) (by intro r';exact aU.here) (Oj hi hI aM) hpx.out (hone (C.past i)) MX OM ?_;intro a1 c1 w hI;simp only[Nat.zero_add,List.nil_append]at hI;simp only[Nat.zero_add])|go_at_call 87;refine KO hI (Oi _ _ _ _ _ _ _ (C.S i) (vL hi hu.out hI aM).1 (vL hi hu.out hI aM).2.1 (vL hi hu.out hI aM).2.2.2 (vL hi hu.out hI aM).2.2.1 hn2) ?_;intro ax cx w1 hI|(with_reducible refine aA (n:=(C.past i).length) (q:=(C.S i).aX.length) hI RF RF (uQ.out (t:=83)) (by intro r';exact aU.there aU.here) (hI.rd aC) hsx.out (hone (C.S i).aX) MX OM ?_;intro a2 c2 w hI));go_ret;refine⟨a2,c2,by simp only[List.length_append];rfl,?_⟩;simp only[List.length_append,show yt (C.past i++(C.S i).aX)=yt (C.past i)++yt (C.S i).aX from by simp[yt]];exact hI.tl
end
theorem afK(k):dU iP k=gW 64:=rfl
theorem alP:Ae (dU iP):=λk _=>by grind[afK,gW]
theorem afL:∀n at_,ek iP at_ n=(iP,0)
 |0,at_=>rfl
 |n+1,at_=>by exact afL n (at_+1)
theorem aeD(number)(used:Nat):jG (dU iP) number used=none:=by
 cases h:jG (dU iP) number used with
 |none=>rfl
 |some x=>
  unfold jG at h
  split at h
  ·rename_i hp
   have:=vv hp
   grind[afK,gW]
  grind
theorem akg:dJ iP=(some ([],0,0),(cZ iP).1,0):=by
 have hr:kL (dU iP) 2049 0 0=([],0,0):=by grind[kL,aeD]
 unfold dJ;dsimp only;rw[afL]
 simp_all[cZ,iP]
theorem Ub:xJ iP:=⟨λp hp=>(by cases hp),λk=>by simp[iP,gW],⟨Int.le_refl 0,by show(0:Int) <9223372036854775808;omega⟩⟩
def zI(R R':bT):Prop:=∃Z:bT,R'.own.Perm (R.own++Z.own)∧∀w,R'.sat w↔(R.sat w∧Z.sat w)
theorem zI.refl(R):zI R R:=⟨sQ,by simp[sQ],λw=>by simp[sQ]⟩
theorem zI.l{R A}(h:zI R A)(B):zI R (two A B):=by
 obtain⟨Z,hp,hs⟩:=h;refine⟨two Z B,?_,λw=>?_⟩
 ·show(A.own++B.own).Perm (R.own++(Z.own++B.own))
  grind
 ·show A.sat w∧B.sat w↔R.sat w∧Z.sat w∧B.sat w
  grind
theorem zI.r{R B}(h:zI R B)(A):zI R (two A B):=by
 obtain⟨Z,hp,hs⟩:=h;refine⟨two A Z,?_,λw=>?_⟩
 ·show(A.own++B.own).Perm (R.own++(A.own++Z.own))
  grind
 ·show A.sat w∧B.sat w↔R.sat w∧A.sat w∧Z.sat w
  grind
theorem zI.gY{R I F i}(h:zI R (F i))(hi:i∈I):zI R (gY I F):=by
 obtain⟨Z,hp,hs⟩:=h;refine⟨two Z (Go.Proofs.YtdakkaapokhnnaaGreatDoor.gY (I.erase i) F),?_,λw=>?_⟩
 ·refine(DK F (List.perm_cons_erase hi)).trans ?_
  show((F i).own++(Go.Proofs.YtdakkaapokhnnaaGreatDoor.gY (I.erase i) F).own).Perm (R.own++(Z.own++(Go.Proofs.YtdakkaapokhnnaaGreatDoor.gY (I.erase i) F).own))
  grind
 ·constructor
  ·intro h
   obtain⟨a,b⟩:=(hs w).1 (h i hi);exact⟨a,b,λj hj=>h j (List.mem_of_mem_erase hj)⟩
  ·rintro⟨a,b,c⟩ j hj
   by_cases hji:j=i
   ·grind
   ·exact c j ((List.mem_erase_of_ne hji).2 hj)
theorem OD{R m}(h:R∈m):aU R R m m:=by
 obtain⟨m1,m2,rfl⟩:=List.append_of_mem h
 grind[aU.mid]
section
variable {T:List Nat}{w0 w w':World}{m m':List bT}{R R' A Z:bT}
theorem zy(hs:∀w,R'.sat w↔(R.sat w∧Z.sat w))(hp:R'.own.Perm (R.own++Z.own))(h:Inv T w0 w [R']):Inv T w0 w [R,Z]:=
 h.turn (λhh y hy=>by
  grind) (by grind[owned])
theorem Jo(hs:∀w,R'.sat w↔(R.sat w∧Z.sat w))(hp:R'.own.Perm (R.own++Z.own))(h:Inv T w0 w (R::Z::m)):Inv T w0 w (R'::m):=
 h.turn (λhh y hy=>by
  grind) (by grind[fe])
theorem zI.own(hp:zI R R')(hI:Inv T w0 w m)(hm:R'∈m):Inv R.own w w [R]:=by
 obtain⟨Z,h1,h2⟩:=hp;exact(zy h2 h1 (hI.at_ hm)).at_ SI
theorem zI.same(hp:zI R R')(hI:Inv T w0 w m)(hm:R'∈m)(hJ:Inv R.own w w' [R]):Inv T w0 w' m:=by
 obtain⟨Z,h1,h2⟩:=hp;exact hI.on (Jo h2 h1 ((zy h2 h1 (hI.at_ hm)).on hJ aU.here)) (OD hm)
theorem zI.more(hp:zI R R')(hI:Inv T w0 w m)(hm:R'∈m)(hJ:Inv R.own w w' [A,R]):Inv T w0 w' (A::m):=by
 obtain⟨Z,h1,h2⟩:=hp;have h3:=((zy h2 h1 (hI.at_ hm)).Uu hJ aU.here);refine hI.Uu ?_ (OD hm);exact Inv.jS (Jo h2 h1 (h3.turn (λhs z hz=>hs z (by grind)) (by
  grind[owned])))
variable {X:CX}{Y:CY}{C:CS}{i:Nat}
theorem Jp(hi:i<5){R}(h:zI R (dm X Y C i)):zI R (bF X Y C):=(((h.gY (F:=dm X Y C) (tQ hi)).l _).r _).r _
theorem OE(hi:i<5):zI (fB (X.d i) (X.mr i) (Y.m i).wb (C.S i).D) (bF X Y C):=by
 refine Jp hi ?_;unfold dm;split
 ·exact((((zI.refl _).r _).r _).r _).r _
 ·exact(zI.refl _).r _
abbrev upr(X:CX)(Y:CY)(C:CS)(i:Nat):bT:=two (rb i (Y.m i).b (Y.m i).l (Y.m i).vb (Y.m i).ra (Y.m i).rc (C.S i)) (two (nT (Y.m i).ra (Y.m i).rc (C.S i).aX)
 (two (nZ (Cm (C.S i).D (C.S i).cnt (C.S i).used)) (lg (Y.m i).l (X.d i) (X.mr i) (Y.m i).wb (C.S i).D (C.S i).cnt (C.S i).used)))
theorem vM(hi:i<5)(hu:C.up i=true):zI (upr X Y C i) (bF X Y C):=by
 refine Jp hi ?_
 simp_all[dm,zI.refl]
end
