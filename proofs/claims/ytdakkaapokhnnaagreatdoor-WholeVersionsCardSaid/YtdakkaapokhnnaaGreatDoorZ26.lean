/- Contracts of functions. No condition. -/
import Derived.Test.YtdakkaapokhnnaaGreatDoorZ22
import Derived.Test.YtdakkaapokhnnaaGreatDoorZ23
namespace Go.Proofs.YtdakkaapokhnnaaGreatDoor
open Go.RowKit Go.Proofs.Tryz
set_option maxRecDepth 100000
set_option maxHeartbeats 6400000
set_option linter.all false
section
open B (aI dw eu bK)
def BG(r:List Int):Prop:=mX r∧gi r 0<=10240
def qp(a b:List Int):Prop:=(a=b∨gi a 0<gi b 0)∧∀k,k<4->gi a (1+k*7)<=gi b (1+k*7)∧gi a (1+k*7+1)<=gi b (1+k*7+1)
theorem qp.refl(a):qp a a:=⟨.inl rfl,λ_ _=>⟨Int.le_refl _,Int.le_refl _⟩⟩
theorem qp.trans{a b c}(h:qp a b)(g:qp b c):qp a c:=by
 refine⟨?_,λk hk=>⟨Int.le_trans (h.2 k hk).1 (g.2 k hk).1,Int.le_trans (h.2 k hk).2 (g.2 k hk).2⟩⟩;rcases h.1 with rfl|h1
 ·exact g.1
 ·rcases g.1 with rfl|g1
  all_goals omega
theorem qp.Cu{a b}(h:qp a b):gi a 0<=gi b 0:=by
 rcases h.1 with rfl|h1
 all_goals omega
theorem NR{r}(hl:r.length=174)(hr:C.jm r=true)(h64:eG r):mX r:=⟨hl,hr,h64,adZ hl hr⟩
theorem NS{x i n}(h0:0<=gi x 0)(h1:gi x 0<=9223372036854775806):C.jq x i n=C.iw x i n:=by
 grind[C.jq,C.iw,wO]
theorem ad3{x d who}(hx0:0<=gi x 0)(hx1:gi x 0<=9223372036854775806)(hd0:0<=gi d 0)(hd1:gi d 0<=9223372036854775806):C.tJ x who d=C.adp x who d:=by
 grind[C.tJ,C.adp,C.E5,C.vC,C.lI,C.Qd,wO]
theorem AL{last}(hl:last.length=870)(hv:∀w,w<5->BG (rowAt last w)):∀ {l x y},(∀i∈l,i<5)->x.length=174->C.jm x=true->gi x 0+l.length<=9223372036854775806->fP last x l=some y->
  C.jm y=true∧gi y 0<=gi x 0+l.length∧(y=x∨gi x 0<gi y 0)∧C.cellsOf y=C.cellsOf x∧∀Q:List Int->Prop,(∀j∈l,∀z,z.length=174->Q z->Q (C.vC z (j:Int) (rowAt last j)))->Q x->Q y
 | [],x,y,_,hx,hr,_,h=>by grind[fP.eq_1]
 |i::l,x,y,h5,hx,hr,hb,h=>by
  have hi:=h5 i SI;have hd:=hv i hi;simp only[List.length_cons]at hb;have h5':∀j∈l,j<5:=λj hj=>h5 j (List.mem_cons_of_mem _ hj)
  rw[fP]at h
  split at h
  ·obtain⟨a,b,c,d,q⟩:=AL hl hv h5' hx hr OM h
   exact⟨a,by grind,c,d,λQ hQ=>q Q λj hj=>hQ j (List.mem_cons_of_mem _ hj)⟩
  ·split at h
   ·rename_i h0
    have hx0:=(C.pY hr).1;have hd0:=(C.pY hd.1.2.1).1;have hd1:=hd.2;rw[ad3 hx0 OM hd0 OM]at h h0;have hm:C.aL (i:Int)=true:=by grind[C.aL]
    have e:C.adp x (i:Int) (rowAt last i)=(C.vC x (i:Int) (rowAt last i),0):=by
     simp_all[C.adp]
    rw[e]at h;have hy:=C.Qe x (rowAt last i) (i:Int) hx hd.1.1 hm hr hd.1.2.1;have hyl:=C.Zj x (i:Int) (rowAt last i) hx hd.1.1 hm;have hy0:gi (C.vC x (i:Int) (rowAt last i)) 0=gi x 0+1:=C.Zk (x:=x) (dead:=rowAt last i) (who:=(i:Int)) (hx:=hx) (hd:=hd.1.1) (h1:=hm);have hyc:C.cellsOf (C.vC x (i:Int) (rowAt last i))=C.cellsOf x:=C.EU (x:=x) (dead:=rowAt last i) (who:=(i:Int)) (hx:=hx) (hd:=hd.1.1) (h1:=hm);obtain⟨a,b,c,d,q⟩:=AL hl hv h5' hyl hy OM h;refine⟨a,by grind,.inr ?_,d.trans hyc,λQ hQ hq=>q Q (λj hj=>hQ j (List.mem_cons_of_mem _ hj)) (hQ i SI x hx hq)⟩
    grind
   grind
theorem NT{x y}(h:C.cellsOf y=C.cellsOf x)(k)(hk:k<28):gi y (1+k)=gi x (1+k):=by
 have:=congrArg (λc=>gi c k) h
 grind[C.cellsOf,gy]
theorem TJ(f S):(qm f S).length<=5:=by
 grind[qm]
theorem QV{x i j v}(hi:i<x.length):gi (x.set i v) j=if i=j then v else gi x j:=by
 unfold gi
 grind
theorem aj6{f S x}(hM:uS S)(ho:mX S.own)(hb:gi S.own 0<=10240)(hv:∀w,w<5->BG (rowAt S.last w))(hg:Grow f S x):mX x∧gi x 0<=gi S.own 0+5∧qp S.own x:=by
 have h64:=(NI hM hg).2;have hl:=hg.len hM.len;have h0:=ho.2.2.2 0;cases hg with
 |more key xU n h1 h2 h3 h3' h4 e h5 h6=>
  have eq:C.jq S.own (1+key*7+xU) n=C.iw S.own (1+key*7+xU) n:=NS h0 OM;rw[eq]at e;subst e;have hr:=C.Qg S.own key xU n hM.len.own ho.2.1 h1 h2 h3 h4;have hat:∀j,gi (C.iw S.own (1+key*7+xU) n) j=if 0=j then gi S.own 0+1 else if 1+key*7+xU=j then gi S.own (1+key*7+xU)+n else gi S.own j:=λj=>by
   grind[C.iw,QV]
  refine⟨NR hl hr h64,?_,.inr ?_,λk hk=>?_⟩
  all_goals grind
 |come h1 h2 h3 e=>
  have hd:=TJ f S;obtain⟨a,b,c,d,_⟩:=AL hM.len.last hv (λi hi=>VT hi) hM.len.own ho.2.1 OM e;refine⟨NR hl a h64,by omega,c.elim (λh=> .inl h.symm) .inr,λk hk=>?_⟩;rw[NT d (k*7) OM,show 1+k*7+1=1+(k*7+1) by omega,NT d (k*7+1) OM];omega
def st0:RS:=r_ iP 0 0 λ_=>[]
def Dur(S:RS)(bs:List (List UInt8)):Prop:=∀R,dz st0 bs=some R->S.own=R.own∧S.aT=R.aT∧S.sl=R.sl
theorem BH:∀bs b S,dz S (bs++[b])=(dz S bs).bind λR=>(nI b).map (dD R)
 | [],b,S=>by
  show(nI b).bind (λx=>dz (dD S x) [])=_;cases nI b<;>rfl
 |a::bs,b,S=>by
  show(nI a).bind (λx=>dz (dD S x) (bs++[b]))=((nI a).bind λx=>dz (dD S x) bs).bind _;cases nI a with
  |none=>rfl
  |some x=>exact BH bs b _
theorem AO{S S' bs}{x:Rec}(h:Dur S bs)(hx:∀y R,nI x.W=some y->S.own=R.own->S.aT=R.aT->S.sl=R.sl->S'.own=(dD R y).own∧S'.aT=(dD R y).aT∧S'.sl=(dD R y).sl):Dur S' (bs++[x.W]):=λR' hR'=>by
 rw[BH]at hR';obtain⟨R,h1,h2⟩:=Option.bind_eq_some_iff.1 hR';obtain⟨y,h3,rfl⟩:=Option.map_eq_some_iff.1 h2;obtain⟨a,b,c⟩:=h R h1
 grind
theorem lQ{S S' bs}(h:Dur S bs)(h1:S'.own=S.own)(h2:S'.aT=S.aT)(h3:S'.sl=S.sl):Dur S' bs:=λR hR=>by rw[h1,h2,h3];exact h R hR
theorem AP{S S' bs}{x:Rec}(h:Dur S bs)(h3:3<=x.tag)(e1:S'.own=S.own)(e2:S'.aT=S.aT)(e3:S'.sl=S.sl):Dur S' (bs++[x.W]):=
 AO h λy R hy a b c=>by
  have hk:=I_ hy;rw[e1,e2,e3];cases y with
  |row r=>grind[Rec.tag]
  |cz w r=>grind[Rec.tag]
  |aZ w=>grind[Rec.tag]
  |qH e b'=>exact⟨a,b,c⟩
  |take e b' c'=>exact⟨a,b,c⟩
  |view v=>exact⟨a,b,c⟩
def QW(V:Nat->Int)(t:Nat)(aT:List Int)(v:Int):Prop:=∀w,w<5->BG (rowAt aT w)∧gi (rowAt aT w) 0<=if w=t then v else V w
structure MG (V:Nat->Int) (t:Nat) (S:RS) (bs:List (List UInt8)):Prop where
 log:tO S.D bs S.cnt S.used
 BI:Dur S bs
 own:mX S.own
 Cu:gi S.own 0<=5*S.cnt
 aT:QW V t S.aT (gi S.own 0)
 last:∀w,w<5->BG (rowAt S.last w)
 vt:V t<=gi S.own 0
theorem QW.mono{V V' t aT v v'}(h:QW V t aT v)(hV:∀w,w<5->V w<=V' w)(hv:v<=v'):QW V' t aT v':=λw hw=>by
 obtain⟨a,b⟩:=h w hw
 grind
def afJ(A B:RS):Prop:=∀k,k<5->gi (rowAt A.aT k) 0<=gi (rowAt B.aT k) 0∧(gb A.sl k=true->gb B.sl k=true∧rowAt B.aT k=rowAt A.aT k)
def mg(A B:RS):Prop:=qp A.own B.own∧afJ A B
theorem mg.refl(A):mg A A:=⟨qp.refl _,λ_ _=>⟨Int.le_refl _,λh=>⟨h,rfl⟩⟩⟩
theorem mg.trans{A B D}(h:mg A B)(g:mg B D):mg A D:=⟨h.1.trans g.1,λk hk=>by
 obtain⟨a,b⟩:=h.2 k hk;obtain⟨c,d⟩:=g.2 k hk
 grind⟩
theorem mg.same{A B D}(h:mg A B)(h1:D.own=B.own)(h2:D.aT=B.aT)(h3:D.sl=B.sl):mg A D:=by
 grind[mg,afJ]
theorem tO.cnt{D bs c u}(h:tO D bs c u):c=bs.length∧c<=2048:=by
 have:=AF bs h.ld;have:=h.le;omega
theorem MG.v{V t S bs}(h:MG V t S bs):BG S.own:=⟨h.own,by have:=h.Cu;have:=h.log.cnt;omega⟩
theorem MG.mono{V V' t S bs}(h:MG V t S bs)(hV:∀w,w<5->V w<=V' w)(ht:V' t<=gi S.own 0):MG V' t S bs:=⟨h.log,h.BI,h.own,h.Cu,h.aT.mono hV (Int.le_refl _),h.last,ht⟩
def uK(V:Nat->Int)(a:Nat):gQ->Prop
 | .row w r=>BG r∧w=a∧gi r 0<=V a
 | .d_ _ r=>BG r
 |_=>True
section
variable {V:Nat->Int}{f:Nat}{In:Nat->gQ->Prop}{n k:Nat}{S S1:RS}{bs:List (List UInt8)}
theorem q_{zs r w v}(hz:zs.length=870)(hr:r.length=174)(hw:w<5)(hv:v<5):rowAt (dK zs (w*174) r) v=if v=w then r else rowAt zs v:=by
 unfold rowAt;by_cases e:v=w
 ·grind[C.l9]
 ·grind[C.jQ]
theorem qc(h:MG V f S bs)(x):((cK S x).2=0->tO (cK S x).1.D (bs++[x.W]) (cK S x).1.cnt (cK S x).1.used∧(cK S x).1.cnt=S.cnt+1)∧((cK S x).2≠0->tO (cK S x).1.D bs (cK S x).1.cnt (cK S x).1.used∧(cK S x).1.cnt=S.cnt):=by
 obtain⟨a,b⟩:=ahH h.log x.W;have hc:=h.log.cnt.1;refine⟨λhe=>⟨a he,?_⟩,λhe=>⟨b he,?_⟩⟩
 ·have:=(a he).cnt.1
  rw[List.length_append,List.length_singleton]at this;show(bW S.D S.cnt S.used x.W).2.1=_;omega
 ·have:=(b he).cnt.1
  show(bW S.D S.cnt S.used x.W).2.1=_;omega
theorem ahO(hin:∀a M,In a M->M.Ok∧uK V a M)(h:MG V f S bs){a w r}(hh:Hr f In S a (.row w r)):BG r∧gi r 0<=if a=f then gi S.own 0 else V a:=by
 rcases hh with hh|hh
 ·obtain⟨h1,h2,h3⟩:=(hin _ _ hh).2
  refine⟨h1,?_⟩
  split
  ·rename_i e;subst e;exact Int.le_trans h3 h.vt
  omega
 ·rw[show r=S.own from hh.2.2];exact⟨h.v,by omega⟩
theorem Wd(hin:∀a M,In a M->M.Ok∧uK V a M)(h:MG V f S bs){a w r}(hh:Hr f In S a (.d_ w r)):BG r:=by
 rcases hh with hh|hh
 ·exact(hin _ _ hh).2
 ·rw[show r=rowAt S.aT w from hh.2.2.2];exact(h.aT w hh.2.1).1
theorem ad4{bs}{w k:Nat}(h:gb bs k=true):gb (C.ku bs (w:Int)) k=true:=by
 grind[C.ku,gb]
theorem aaE(hin:∀a M,In a M->M.Ok∧uK V a M)(hm:Mv f In n S S1)(hM:uS S)(h:MG V f S bs):∃bs',MG V f S1 bs'∧mg S S1:=by
 have hle:=mg.refl S;have alF:=h.Cu;cases hm with
 | @out _ t M _ _ _=>
  obtain⟨B,e⟩:=qo (f:=f) S t M;rw[e];exact⟨bs,⟨h.log,h.BI,h.own,h.Cu,h.aT,h.last,h.vt⟩,hle⟩
 |fail _ hc=>
  obtain⟨a,b⟩:=(qc h _).2 hc;exact⟨bs,⟨a,lQ h.BI rfl rfl rfl,h.own,by rw[b];exact alF,h.aT,h.last,h.vt⟩,hle⟩
 | @row _ _ x _ _ _ hg hx hc=>
  obtain⟨a,b⟩:=(qc h _).1 hc;have hv:=h.v;obtain⟨g1,g2,g3⟩:=aj6 hM h.own hv.2 h.last hg;have g4:=g3.Cu;refine⟨_,⟨a,AO h.BI λy R hy e1 e2 e3=>?_,g1,?_,h.aT.mono (λ_ _=>Int.le_refl _) g4,h.last,Int.le_trans h.vt g4⟩,g3,hle.2⟩
  ·rw[aax g1]at hy;cases hy;exact⟨rfl,e2,e3⟩
  grind
 | @cz _ aa r hr hR hc=>
  obtain⟨a,b⟩:=(qc h _).1 hc;cases hR with
  |cz _ _ h5 hh hk=>
   obtain⟨hv,hv2⟩:=ahO hin h hh;have hz:C.gM S.aT S.sl (aa:Int) r=dK S.aT (aa*174) r:=by simp_all[C.gM]
   have hk2:=hk;unfold C.mG at hk2;simp only[Bool.and_eq_true,Bool.not_eq_true',decide_eq_true_eq,Int.toNat_natCast]at hk2;refine⟨_,⟨a,AO h.BI λy R hy e1 e2 e3=>?_,h.own,?_,λw hw=>?_,h.last,h.vt⟩,hle.1,λk hk5=>?_⟩
   ·rw[NN h5 hv.1]at hy;cases hy
    refine⟨e1,?_,e3⟩;show C.gM S.aT S.sl (aa:Int) r=C.gM R.aT R.sl (aa:Int) r
    grind
   ·show gi S.own 0<=5*((cK S (.cz aa r)).1.cnt:Int)
    omega
   ·show BG (rowAt (C.gM S.aT S.sl (aa:Int) r) w)∧gi (rowAt (C.gM S.aT S.sl (aa:Int) r) w) 0<=_
    rw[hz,q_ hM.len.aT hr h5 hw]
    split
    ·rename_i e;subst e;exact⟨hv,hv2⟩
    ·exact h.aT w hw
   ·show gi (rowAt S.aT k) 0<=gi (rowAt (C.gM S.aT S.sl (aa:Int) r) k) 0∧(gb S.sl k=true->gb S.sl k=true∧rowAt (C.gM S.aT S.sl (aa:Int) r) k=rowAt S.aT k)
    rw[hz,q_ hM.len.aT hr h5 hk5]
    split
    ·rename_i e;subst e
     refine⟨?_,λg=>?_⟩
     ·have:=hk2.2
      unfold rowAt;rw[gy _ _ _ _ OM,Nat.add_zero];omega
     grind
    grind
 | @aZ _ w hR hc=>
  obtain⟨a,b⟩:=(qc h _).1 hc;cases hR with
  |aZ _ _ h5 _ _=>
   refine⟨_,⟨a,AO h.BI λy R hy e1 e2 e3=>?_,h.own,?_,h.aT,h.last,h.vt⟩,hle.1,λk hk5=>⟨Int.le_refl _,λg=>⟨ad4 g,rfl⟩⟩⟩
   ·rw[V9 h5]at hy;cases hy
    refine⟨e1,e2,?_⟩;show C.ku S.sl (w:Int)=C.ku R.sl (w:Int);rw[e3]
   ·show gi S.own 0<=5*((cK S (.aZ w)).1.cnt:Int)
    omega
 |qH _ _ _ hc=>
  obtain⟨a,b⟩:=(qc h _).1 hc;exact⟨_,⟨a,AP h.BI (by simp[Rec.tag]) rfl rfl rfl,h.own,by show gi S.own 0<=5*((cK S _).1.cnt:Int);omega,h.aT,h.last,h.vt⟩,hle⟩
 |BB _ _ _ _ hc=>
  obtain⟨a,b⟩:=(qc h _).1 hc;exact⟨_,⟨a,AP h.BI (by simp[Rec.tag]) rfl rfl rfl,h.own,by show gi S.own 0<=5*((cK S _).1.cnt:Int);omega,h.aT,h.last,h.vt⟩,hle⟩
 |take _ _ _ hc=>
  obtain⟨a,b⟩:=(qc h _).1 hc;exact⟨_,⟨a,AP h.BI (by simp[Rec.tag]) rfl rfl rfl,h.own,by show gi S.own 0<=5*((cK S _).1.cnt:Int);omega,h.aT,h.last,h.vt⟩,hle⟩
 |view _ _ hc=>
  obtain⟨a,b⟩:=(qc h _).1 hc;exact⟨_,⟨a,AP h.BI (by simp[Rec.tag]) rfl rfl rfl,h.own,by show gi S.own 0<=5*((cK S _).1.cnt:Int);omega,h.aT,h.last,h.vt⟩,hle⟩
 | @hear _ a w r hw hr hh _=>
  have hv:=Wd hin h hh;refine⟨bs,⟨h.log,lQ h.BI rfl rfl rfl,h.own,h.Cu,h.aT,λv hv5=>?_,h.vt⟩,hle⟩
  grind[q_,bB.last,uS.len,MG.last]
 |kept=>exact⟨bs,⟨h.log,lQ h.BI rfl rfl rfl,h.own,h.Cu,h.aT,h.last,h.vt⟩,hle⟩
 |book _ _=>exact⟨bs,⟨h.log,lQ h.BI rfl rfl rfl,h.own,h.Cu,h.aT,h.last,h.vt⟩,hle⟩
 |idle=>exact⟨bs,⟨h.log,lQ h.BI rfl rfl rfl,h.own,h.Cu,h.aT,h.last,h.vt⟩,hle⟩
 |done _=>exact⟨bs,⟨h.log,lQ h.BI rfl rfl rfl,h.own,h.Cu,h.aT,h.last,h.vt⟩,hle⟩
 |vW _ _ _=>exact⟨bs,⟨h.log,lQ h.BI rfl rfl rfl,h.own,h.Cu,h.aT,h.last,h.vt⟩,hle⟩
 |round _=>exact⟨bs,⟨h.log,lQ h.BI rfl rfl rfl,h.own,h.Cu,h.aT,h.last,h.vt⟩,hle⟩
 |Nn _ _ _ _=>exact⟨bs,⟨h.log,lQ h.BI rfl rfl rfl,h.own,h.Cu,h.aT,h.last,h.vt⟩,hle⟩
 |taken _ _=>exact⟨bs,⟨h.log,lQ h.BI rfl rfl rfl,h.own,h.Cu,h.aT,h.last,h.vt⟩,hle⟩
 |ops=>exact⟨bs,⟨h.log,lQ h.BI rfl rfl rfl,h.own,h.Cu,h.aT,h.last,h.vt⟩,hle⟩
theorem ahP(hin:∀a M,In a M->M.Ok∧uK V a M)(hm:kH f In k S S1):∀ {bs},uS S->MG V f S bs->∃bs',MG V f S1 bs'∧mg S S1:=by
 induction hm with
 |nil=>grind[mg.refl]
 |cons a b c ih=>
  intro bs hM h;obtain⟨b1,h1,l1⟩:=aaE hin a hM h
  grind[FY,mg.trans]
end
end
def zB(D:DS):Nat->List (Int×List UInt8)
 |0=>[]
 |p+1=>if D.sure (p:Int)=gW 64 then zB D p else zB D p++[((p:Int),D.sure (p:Int))]
theorem Gu(D):∀p,(zB D p).length<=p
 |0=>Nat.le_refl _
 |p+1=>by
  have:=Gu D p
  grind[zB]
def RB(D:DS)(p:Nat):DS:=⟨λ_=>gW 64,zB D p,false,0,false⟩
def tT(D:DS):DS:=⟨λk=>if 0<=k∧k<2048 then D.sure k else gW 64,[],false,0,false⟩
def xq(D:DS)(B:Nat->List (List UInt8)):Option RS:=(gT (tT D) B).1
theorem Lg{D}(h:∀k,(D.sure k).length=64):∀p,∀q∈zB D p,q.2.length=64
 |0,q,hq=>by cases hq
 |p+1,q,hq=>by
  unfold zB at hq
  split at hq
  ·exact Lg h p q hq
  ·rcases List.mem_append.1 hq with hq|hq
   ·exact Lg h p q hq
   grind
theorem RD{D}(h:∀k,(D.sure k).length=64)(p):xJ (RB D p):=⟨Lg h p,λ_=>k_ 64,by show(0:Int)<=0∧(0:Int) <_;omega⟩
theorem Gv(D):∀p,lF (λ_=>gW 64) (zB D p)=λk=>if 0<=k∧k< (p:Int)then D.sure k else gW 64
 |0=>by funext k;rw[if_neg OM];rfl
 |p+1=>by
  have ih:=Gv D p;unfold zB;by_cases h:D.sure (p:Int)=gW 64
  ·grind
  ·rw[if_neg h]
   have e:lF (λ_=>gW 64) (zB D p++[((p:Int),D.sure (p:Int))])=oh (lF (λ_=>gW 64) (zB D p)) (p:Int) (D.sure (p:Int)):=by
    grind[lF]
   rw[e,ih];unfold oh
   grind
theorem Jq(D):(cZ (RB D 2048)).1=tT D:=by
 unfold cZ RB;rw[Gv];rfl
theorem RG{D}(h:∀k,(D.sure k).length=64){p:Nat}(hp:p<2048)(hz:D.sure (p:Int)≠gW 64):(bA (RB D p) (p:Int) (D.sure (p:Int))).1=RB D (p+1):=by
 have hl:=h (p:Int);unfold bA;rw[if_neg OM,if_neg (by show ¬(false=true∨(false=true∧_));simp)]
 simp_all[pad,gW,RB,zB.eq_2]
theorem Jr{D}(h:∀k,(D.sure k).length=64):xJ (tT D):=⟨λq hq=>(by cases hq),λk=>by show(if 0<=k∧k<2048 then D.sure k else gW 64).length=64;split;exact h k;exact k_ 64,by show(0:Int)<=0∧(0:Int) <_;omega⟩
theorem BL(D):Hi (tT D):=⟨λq hq=>(by cases hq),λk hk=>by show(if 0<=k∧k<2048 then D.sure k else gW 64)=_;grind⟩
theorem aip{w}{b e:Nat}{s:List UInt8}(h:(blk b e (s.map bv)).sat w):Rd w (some ⟨b,0,none⟩) (s.map bv):=EE (Inv.take h) aC
def Gw(b:Nat):Option RS->Value
 |none=> .pointer none
 |some _=> .pointer (some ⟨b,0,none⟩)
def aeK(i b l:Nat):Option RS->bT
 |none=>sQ
 |some S=>two (rb i b l 0 none 0 S) (nZ True)
section
variable {ops:Array Oper}{Q:Exit->Act->World->Prop}{a:Act}{rest:List Oper}{w:World}{dst:Option Tmp}{ty:TypeId}{pos:String}{af:Array Edge}
theorem afN{x y}{t':Nat}{xs ys v}(hv:decide (xs=ys)=v)(hx:a.eval x=vg xs:=by exact RF)(hy:a.eval y=vg ys:=by exact RF)(h1:xs.length=64)(h2:ys.length=64)
  (k:wpList prog ops Q rest (a.put dst (.bool (!v))) w):wpList prog ops Q (⟨dst,.binOp .neq 169 x y t',ty,pos,af,none⟩::rest) a w:=by
 subst hv;refine av (v:=.bool (!decide (xs=ys))) ?_ k;have hb:(Op.equalIn 10000 169 (vg xs) (vg ys)).run prog w=.ok (decide (xs=ys)) w:=EG 9999 DC xs ys w h1 h2;unfold gu execOp
 simp_all[vg,Go.run_neq_struct,Go.run_eqGuard_agg]
end
theorem RH{D B}:(gT D B).1.isNone= !decide ((gT D B).2.2=0):=by
 grind[gT,dJ]
theorem Inv.aiq{T w0 w m}(h:Inv T w0 w m):Inv T w0 w (sQ::m):=
 h.turn (λhs y hy=>by
  rcases List.mem_cons.1 hy with rfl|hy
  ·trivial
  grind) (by simp[owned,sQ])
theorem Ug(w0)(f d mr:Nat)(wb D B)(hD:xJ D)(hwl:D.waits.length<=50000)(hE:Ae (dU D))(hI:Inv (fB d mr wb D).own w0 w0 [fB d mr wb D]):
  Calls prog 37 #[.int .i64 (f:Int),.pointer (some ⟨d,0,none⟩)] w0 λe w'=>∃b l,e=.returned (.tuple #[Gw b (gT D B).1,.int .i64 (gT D B).2.2])∧Inv (fB d mr wb D).own w0 w' [aeK f b l (gT D B).1]:=by
 unfold gT;cases e:dJ D with
 |mk o q=>
  obtain⟨D',er⟩:=q;cases o with
  |none=>exact(Og w0 f d mr wb D hD hwl hE hI D' er e).mono λe w' ⟨nu,h1,h2⟩=>⟨0,0,h1,(h2.sub (List.nil_sublist _)).aiq⟩
  |some t=>
   obtain⟨bs,cnt,used⟩:=t;dsimp only;cases hr:dz (r_ D' cnt used B) bs with
   |none=>exact(Jh w0 f d mr wb D B hD hwl hE hI bs cnt used D' er e hr).mono λe w' ⟨nu,h1,h2⟩=>⟨0,0,h1,(h2.sub (List.nil_sublist _)).aiq⟩
   |some S=>
    obtain⟨k1,k2,k3,k4,k5⟩:=mq bs _ _ hr;exact(Gp w0 f d mr wb D B hD hwl hE hI bs cnt used D' er e S hr ⟨k1,k2,k3⟩).mono λe w' ⟨nu,b,l,h1,h2⟩=>⟨b,l,h1,h2.sub (.cons_cons _ (List.nil_sublist _))⟩
section
variable (w0:World)(i d mr:Nat)(wb:Option Nat)(D:DS)(B:Nat->List (List UInt8))(qg:∀k,(D.sure k).length=64)(hI:Inv (fB d mr wb D).own w0 w0 [fB d mr wb D])
include qg hI
theorem aeL:Calls prog 60 #[.int .i64 (i:Int),.pointer (some ⟨d,0,none⟩)] w0 λe w'=>∃b l,e=.returned (Gw b (xq D B))∧Inv (fB d mr wb D).own w0 w' [aeK i b l (xq D B),fB d mr wb D]:=by
 have hE:=RH (D:=tT D) (B:=B);unfold xq;obtain⟨o,er,ho⟩:∃o er,Hid ((gT (tT D) B).1=o∧(gT (tT D) B).2.2=er):=⟨_,_,HD ⟨rfl,rfl⟩⟩;rw[ho.out.1,ho.out.2]at hE;rw[ho.out.1];go_enter func60,ntmps60;go_wp2_with(go_at_call 36;refine KO hI (Mh _) ?_;intro d2 mr2 w1 hI)
 go_loopg [6,11] 2048 (λkk s6 s11 wr=>∃(p:Nat) (OX:Option Nat),kk=2048-p∧p<=2048∧s11=.int .i64 (p:Int)∧Inv (fB d mr wb D).own w0 wr [fB d2 mr2 OX (RB D p),fB d mr wb D])
 case atStart=>exact⟨0,none,rfl,by omega,rfl,hI⟩
 case round=>
  clear hI;obtain⟨p,OX,rfl,hp,rfl,hI⟩:=hrel;by_cases hpe:p=2048
  ·subst hpe
   have hgl:(RB D 2048).waits.length<=200000:=by have:=Gu D 2048;show(zB D 2048).length<=_;omega
   have hal:(tT D).waits.length<=50000:=by show([]:List (Int×List UInt8)).length<=_;simp
   cases o with
   |none=>
    have hde:(er==0)=false:=by simpa using hE
    clear hE;go_wp2_with(first|go_at_call 96;refine KG hI (qZ _ d2 mr2 OX (RB D 2048) (hI.at_ aC) (RD qg 2048) hgl) ?_;intro wb3 w1 hI;rw[Jq]at hI|go_at_call 37;(with_reducible refine(Ug _ i d2 mr2 wb3 (tT D) B (Jr qg) hal (QO (BL D)) (hI.at_ aC)).mono ?_);(rw[ho.out.1,ho.out.2]);rintro e w1 ⟨b,l,rfl,hJ⟩;replace hI:=hI.on hJ jR;clear hJ;simp only[Gw]);go_ret;exact⟨0,0,rfl,hI⟩
   |some S=>
    have he:er=0:=by simpa using hE
    subst he;clear hE;go_wp2_with(first|go_at_call 96;refine KG hI (qZ _ d2 mr2 OX (RB D 2048) (hI.at_ aC) (RD qg 2048) hgl) ?_;intro wb3 w1 hI;rw[Jq]at hI|go_at_call 37;(with_reducible refine(Ug _ i d2 mr2 wb3 (tT D) B (Jr qg) hal (QO (BL D)) (hI.at_ aC)).mono ?_);(rw[ho.out.1,ho.out.2]);rintro e w1 ⟨b,l,rfl,hJ⟩;replace hI:=hI.on hJ jR;clear hJ;simp only[Gw]);go_ret;exact⟨b,l,rfl,hI⟩
  ·have hpl:p<2048:=by omega
   have hd3:decide ((p:Int) <2048)=true:=by simp;omega
   by_cases hz:D.sure (p:Int)=gW 64
   ·have hg:RB D p=RB D (p+1):=by unfold RB;rw[zB,if_pos hz]
    have hdz:decide (D.sure (p:Int)=gW 64)=true:=by simpa using hz
    replace hg:=HD hg;clear hz;go_wp2_with(first|go_at_call 94;refine KC jo hI (H9 _ d mr wb D (hI.at_ aM) _ (qg _)) ?_;intro w1 hI|(with_reducible refine XC hI ?_;intro bx w hI)|(with_reducible refine HY hI (vs:=D.sure (p:Int)) (hl2:=qg _) (k:=?_);intro w hI)|with_reducible refine acC hI (bs:=D.sure (p:Int)) (hl:=qg _) (k:=?_)|with_reducible refine EI ?_|with_reducible refine afN hdz (h1:=qg _) (h2:=k_ 64) (k:=?_));go_roundg (2048- (p+1))
    case measure=>omega
    case rel=>exact⟨p+1,OX,rfl,by omega,rfl,by rw[<-hg.out];exact hI.tl⟩
   ·have hdz:decide (D.sure (p:Int)=gW 64)=false:=by simpa using hz
    have hgl:(RB D p).waits.length<=100000:=by have:=Gu D p;show(zB D p).length<=_;omega
    have hwr:=HD (RG qg hpl hz);clear hz;go_wp2_with(first|go_at_call 94;refine KC jo hI (H9 _ d mr wb D (hI.at_ aM) _ (qg _)) ?_;intro w1 hI|(with_reducible refine XC hI ?_;intro bx w hI)|(with_reducible refine HY hI (vs:=D.sure (p:Int)) (hl2:=qg _) (k:=?_);intro w hI)|with_reducible refine acC hI (bs:=D.sure (p:Int)) (hl:=qg _) (k:=?_)|with_reducible refine EI ?_|with_reducible refine afN hdz (h1:=qg _) (h2:=k_ 64) (k:=?_)|go_at_call 95;replace hI:=hI.jS.eX;(with_reducible refine(rG _ d2 mr2 OX (RB D p) (blk bx 169 ((D.sure (p:Int)).map bv)) (hI.at_ aC) (RD qg p) hgl _ (some ⟨bx,0,none⟩) 64 64 (D.sure (p:Int)) (qg _) (λw h=>aip h) OM).mono ?_);rintro e w1 ⟨wb3,rfl,hJ⟩;replace hI:=hI.on hJ jR;clear hJ;replace hI:=hI.dR;rw[hwr.out]at hI);go_roundg (2048- (p+1))
    case measure=>omega
    case rel=>exact⟨p+1,wb3,rfl,by omega,rfl,hI.sub (.cons_cons _ (.cons _ (.refl _)))⟩
end
def MF(C:CS)(i:Nat):Option RS:=if nM C i=true then some (C.S i)else xq (C.S i).D C.B
def tV(Y:CY)(C:CS)(bs:Nat->Nat)(i:Nat):Value:=if nM C i=true then .pointer (some ⟨(Y.m i).b,0,none⟩)else Gw (bs i) (xq (C.S i).D C.B)
def vN(C:CS)(bs ls:Nat->Nat)(i:Nat):bT:=if nM C i=true then sQ else aeK i (bs i) (ls i) (xq (C.S i).D C.B)
def mc(f:Nat->Value):List Value:=[f 0,f 1,f 2,f 3,f 4]
theorem RI(f){i}(hi:i<5):(mc f)[i]? =some (f i):=lt5 (p:=λi=>(mc f)[i]? =some (f i)) rfl rfl rfl rfl rfl hi
theorem RJ(f v){i}(hi:i<5):splice (mc f) i [v]=mc (gV f i v):=lt5 (p:=λi=>splice (mc f) i [v]=mc (gV f i v)) rfl rfl rfl rfl rfl hi
theorem AZ{f g}(h:∀i,i<5->f i=g i):mc f=mc g:=by simp[mc,h]
theorem abE:(prog.info? 77).map (·.zero)=some (some (.agg (mc λ_=> .pointer none).toArray)):=by kernel_rfl
theorem Gy(b o):(Gw b o).oneCell'=true∧(Gw b o).cells=#[Gw b o]:=by cases o<;>exact⟨rfl,rfl⟩
theorem abF(Y C bs i):(tV Y C bs i).oneCell'=true∧(tV Y C bs i).cells=#[tV Y C bs i]:=by
 unfold tV;split
 ·exact⟨rfl,rfl⟩
 grind[Gy]
def OG(Y:CY)(C:CS)(bs:Nat->Nat)(k j:Nat):Value:=if j<k then tV Y C bs j else .pointer none
theorem abG(Y C bs k b)(h:nM C k=false):∀j,j<5->gV (OG Y C bs k) k (Gw b (xq (C.S k).D C.B)) j=OG Y C (gV bs k b) (k+1) j:=λj hj=>by
 unfold OG;by_cases hjk:j=k
 ·simp_all[bE,tV.eq_1]
 ·rw[bI _ _ hjk,show tV Y C (gV bs k b) j=tV Y C bs j by grind[tV,bI]]
  grind
theorem WI(Y C bs k)(h:nM C k=true):∀j,j<5->gV (OG Y C bs k) k (.pointer (some ⟨(Y.m k).b,0,none⟩)) j=OG Y C bs (k+1) j:=λj hj=>by
 unfold OG;by_cases hjk:j=k
 ·simp_all[bE,tV.eq_1]
 ·rw[bI _ _ hjk]
  grind
theorem aeM{T w0 w m fn}{p b:Nat}{f tm}(hI:Inv T w0 w m)(h0:fn.results=#[.cell p 77])(hp:tm.getD p undef=.pointer (some ⟨b,0,none⟩))(hm:blk b 77 (mc f)∈m):(results fn tm).run prog w=.ok (.agg (mc f).toArray) w:=by
 have hl2:=iT (P:=prog) (bP.out (P:=prog) (t:=77)) (hI.blk hm) 0 (by show 0+5<=5;omega);rw[show((mc f).drop 0).take 5=mc f from rfl]at hl2;simp only[Array.getD_eq_getD_getElem?]at hp;simp[results,h0,hp,hl2,asAddr]
section
variable {ops:Array Oper}{Q:Exit->Act->World->Prop}{a:Act}{rest:List Oper}{T:List Nat}{w0 w:World}{m m':List bT}{dst:Option Tmp}{ty:TypeId}{pos:String}{af:Array Edge}{b:Nat}{f:Nat->Value}
theorem ako{x}(hI:Inv T w0 w m)(hx:a.eval x=.pointer (some ⟨b,0,none⟩):=by exact RF)(hm:blk b 77 (mc f)∈m:=by exact MM)
  (k:wpList prog ops Q rest (a.put dst (.agg (mc f).toArray)) w):wpList prog ops Q (⟨dst,.load 77 x,ty,pos,af,none⟩::rest) a w:=
 dh hI hx hm (bP.out (P:=prog) (t:=77)) (by show 0+5<=5;omega) k
theorem akp{x y g}(hI:Inv T w0 w m)(h1:∀u∈mc f,u.oneCell'=true)(hx:a.eval x=.pointer (some ⟨b,0,none⟩):=by exact RF)(hv:a.eval y=.agg (mc f).toArray:=by exact RF)
  (hu:aU (blk b 77 (mc g)) (blk b 77 (mc f)) m m':=by exact UU)
  (k:∀w',Inv T w0 w' m'->wpList prog ops Q rest (a.put dst undef) w'):wpList prog ops Q (⟨dst,.store 77 x y,ty,pos,af,none⟩::rest) a w:=
 aR hI hx (cs:=mc g) (vs:=mc f) (by rw[hv];rfl) (by exact hu) (bP.out (P:=prog) (t:=77)).size rfl (by show 0+5<=5;omega) h1 k
theorem Js{x y k0}{i:Nat}(hi:i<5)(hx:a.eval x=.agg (mc f).toArray:=by exact RF)(hy:a.eval y=.int k0 (i:Int):=by exact RF)
  (k:wpList prog ops Q rest (a.put dst (f i)) w):wpList prog ops Q (⟨dst,.index 77 x y,ty,pos,af,none⟩::rest) a w:=by
 refine av (v:=f i) ?_ k;unfold gu execOp;have hv:(mc f)[(i:Int).toNat*1]? =some (f i):=by simp_all[RI]
 simp only[hx,hy,Sem.run_bind,Bf (yO.out (P:=prog) (t:=77)) (by omega:(0:Int)<=(i:Int)) (by omega:(i:Int) < (5:Nat)),uX (aQ.out (P:=prog) (t:=32)) hv,Result.andThen_ok];rfl
end
section
variable (w0:World)(X:CX)(Y:CY)(C:CS)(hI:Inv (bF X Y C).own w0 w0 [bF X Y C])
include hI
theorem Gz:Calls prog 32 #[.pointer (some ⟨X.cb,0,none⟩)] w0 λe w'=>∃bs ls,e=.returned (.agg (mc (tV Y C bs)).toArray)∧Inv (bF X Y C).own w0 w' [gY (List.range 5) (vN C bs ls),bF X Y C]:=by
 go_enter func32,ntmps32;go_upto_region 1 with((with_reducible refine aN hI abE rfl ?_);intro br w hI)
 go_wp2_with((with_reducible refine aN hI abE rfl ?_);intro bx w hI);have hst:Inv (bF X Y C).own w0 w [gY (List.range 0) (vN C (λ_=>0) (λ_=>0)),blk bx 77 (mc (OG Y C (λ_=>0) 0)),blk br 77 (mc λ_=> .pointer none),bF X Y C]:=by
  rw[show mc (OG Y C (λ_=>0) 0)=mc (λ_=> .pointer none)from AZ λj _=>by unfold OG;rw[if_neg OM]];exact hI.afW _
 clear hI
 go_loopg [4,5] 5 (λkk s4 s5 wr=>∃(k:Nat) (bs ls:Nat->Nat),kk=5-k∧k<=5∧s5=.int .i64 (k:Int)∧Inv (bF X Y C).own w0 wr [gY (List.range k) (vN C bs ls),blk bx 77 (mc (OG Y C bs k)),blk br 77 (mc λ_=> .pointer none),bF X Y C])
 case atStart=>exact⟨0,_,_,rfl,by omega,rfl,hst⟩
 case round=>
  clear hst;obtain⟨k,bs,ls,rfl,hk,rfl,hI⟩:=hrel;by_cases h5:k=5
  ·subst h5
   rw[show mc (OG Y C bs 5)=mc (tV Y C bs)from AZ λj hj=>by unfold OG;rw[if_pos hj]]at hI;have h1:∀u∈mc (tV Y C bs),u.oneCell'=true:=λu hu=>by
    simp only[mc,List.mem_cons,List.not_mem_nil,or_false]at hu;rcases hu with rfl|rfl|rfl|rfl|rfl<;>exact(abF Y C bs _).1
   go_wp2_with(first|with_reducible refine ako hI (k:=?_)|(with_reducible refine akp hI h1 (k:=?_));intro w hI);exact bodyPost_ret (aeM hI rfl rfl a_) rfl ⟨bs,ls,rfl,hI.sub (.cons_cons _ (.cons _ (.cons _ (.refl _))))⟩
  ·have hk5:k<5:=by omega
   have hd:decide ((k:Int) <5)=true:=by simp;omega
   have ea:(OG Y C bs k) k=.pointer none:=by unfold OG;rw[if_neg OM]
   obtain⟨g,hg⟩:=EH (OG Y C bs k);rw[hg.out]at hI;cases hu:nM C k
   ·have hmv:Hid ((if nM C k=true then Value.pointer (some ⟨(Y.m k).b,0,none⟩)else .pointer none)=.pointer none):=HD (if_neg (by simp[hu]))
    have hvc:(Value.pointer none).cells=#[.pointer none]:=rfl;have hlq:(mc (gV g k (.pointer none)))[k]? =some (.pointer none):=by rw[RI _ hk5,bE]
    obtain⟨o,ho⟩:=EH (xq (C.S k).D C.B);clear ea;go_wp2_with(first|go_at_call 13;refine KR (iM hk5 hI nz) ?_;rw[hmv.out]|(refine aR (b:=bx) (off:=k) (e:=77) (n:=1) (cs:=mc g) (vs:=[_]) hI rfl hvc (by rw[RJ g _ hk5];(with_reducible exact jo)) (aQ.out (P:=prog) (t:=32)).size rfl (by show k+1<=5;omega) (by intro u hu;rw[List.mem_singleton.1 hu];rfl) ?_);intro w hI|with_reducible refine av (Rq (b:=bx) (off:=k) hI RF aM aQ.out hlq) ?_|go_at_call 59;refine KR (ad5 hk5 hI nz) ?_|go_at_call 60;(with_reducible refine(aeL _ k (X.d k) (X.mr k) (Y.m k).wb (C.S k).D C.B (Ga hk5 hI nz).1.ok.Yh ((OE hk5).own hI nz)).mono ?_);rw[ho.out];rintro e w1 ⟨b,l,rfl,hJ⟩;replace hI:=(OE hk5).more hI nz hJ;clear hJ|(refine aR (b:=bx) (off:=k) (e:=77) (n:=1) (cs:=mc (gV g k (.pointer none))) (vs:=[_]) hI rfl (Gy _ _).2 (by rw[RJ _ _ hk5];(with_reducible exact qN)) (aQ.out (P:=prog) (t:=32)).size rfl (by show k+1<=5;omega) (by intro u hu;rw[List.mem_singleton.1 hu];exact(Gy _ _).1) ?_);intro w hI|refine YL ?_);go_roundg (5- (k+1))
    case measure=>omega
    case rel=>
     refine⟨k+1,gV bs k b,gV ls k l,rfl,by omega,rfl,?_⟩;rw[show mc (OG Y C (gV bs k b) (k+1))=mc (gV (gV g k (.pointer none)) k (Gw b o))from(AZ λj hj=>by
      rw[<-abG Y C bs k b hu j hj,hg.out,ho.out];by_cases hjk:j=k
      ·subst hjk;rw[bE,bE]
      ·rw[bI _ _ hjk,bI _ _ hjk,bI _ _ hjk]).symm.symm]
     rw[List.range_succ];have hI2:Inv (bF X Y C).own w0 w [aeK k b l o,gY (List.range k) (vN C bs ls),blk bx 77 (mc (gV (gV g k (.pointer none)) k (Gw b o))),blk br 77 (mc λ_=> .pointer none),bF X Y C]:=hI;refine hI2.more SI ?_ (λj hj=>?_) aU.here
     ·unfold vN;rw[if_neg (by simp[hu]),bE,bE,ho.out]
     ·have:j≠k:=by have:=List.mem_range.1 hj;omega
      unfold vN;rw[bI _ _ this,bI _ _ this]
   ·have hmv:Hid ((if nM C k=true then Value.pointer (some ⟨(Y.m k).b,0,none⟩)else .pointer none)=.pointer (some ⟨(Y.m k).b,0,none⟩)):=HD (if_pos hu)
    have hvc:(Value.pointer (some ⟨(Y.m k).b,0,none⟩)).cells=#[.pointer (some ⟨(Y.m k).b,0,none⟩)]:=rfl;have hlq:(mc (gV g k (.pointer (some ⟨(Y.m k).b,0,none⟩))))[k]? =some (.pointer (some ⟨(Y.m k).b,0,none⟩)):=by rw[RI _ hk5,bE]
    clear ea;go_wp2_with(first|go_at_call 13;refine KR (iM hk5 hI nz) ?_;rw[hmv.out]|(refine aR (b:=bx) (off:=k) (e:=77) (n:=1) (cs:=mc g) (vs:=[_]) hI rfl hvc (by rw[RJ g _ hk5];(with_reducible exact jo)) (aQ.out (P:=prog) (t:=32)).size rfl (by show k+1<=5;omega) (by intro u hu;rw[List.mem_singleton.1 hu];rfl) ?_);intro w hI|with_reducible refine av (Rq (b:=bx) (off:=k) hI RF aM aQ.out hlq) ?_);go_roundg (5- (k+1))
    case measure=>omega
    case rel=>
     refine⟨k+1,bs,ls,rfl,by omega,rfl,?_⟩;rw[show mc (OG Y C bs (k+1))=mc (gV g k (.pointer (some ⟨(Y.m k).b,0,none⟩)))from AZ λj hj=>by rw[<-WI Y C bs k hu j hj,hg.out]];rw[List.range_succ];refine hI.aiq.more SI ?_ (λj hj=>?_) aU.here
     ·unfold vN;rw[if_pos hu]
     ·rfl
end
section
open B (eu pF)
abbrev OH(S:RS)(who:Int):List Int:=C.rowOf S.aT who
abbrev alZ(S:RS)(who:Int):Bool:=C.fG S.sl who
abbrev aeN(m:List Int)(who:Int)(x:List Int):List Int:=C.iV m who x
abbrev al0(m:List Int)(who:Int)(x:List Int):Bool:=C.oL m who x
theorem Dr(b e:Nat)(m):oH b e [] [] m []=ib b e m:=by simp[oH,ib,mix]
theorem aeO(w0)(b e:Nat)(m)(Dj:m.length=870)(hI:Inv (ib b e m).own w0 w0 [ib b e m])(who x)(hx:x.length=174):
  Calls prog 48 #[.pointer (some ⟨b,0,none⟩),.int .i64 who,ia x] w0 λen w'=>en=.returned (.bool (al0 m who x))∧Inv (ib b e m).own w0 w' [ib b e (aeN m who x)]:=by
 rw[<-Dr,<-Dr]at*
 simp_all[C.Tp]
section
variable {T:List Nat}{w0 w:World}{m:List bT}{X:CX}{Y:CY}{C:CS}{bs ls:Nat->Nat}{i:Nat}{S:RS}
theorem abH{k:Nat}{args:Array Value->Array Value}{R}(hi:i<5)(hS:MF C i=some S)(hI:Inv T w0 w m)(hc:bF X Y C∈m)(hf:gY (List.range 5) (vN C bs ls)∈m){v}(hv:tV Y C bs i=v)(hg:∀f b l vb rc ra Z,Inv (two (rb f b l vb ra rc S) Z).own w w [two (rb f b l vb ra rc S) Z]->Calls prog k (args #[.pointer (some ⟨b,0,none⟩)]) w λe w'=>e=.returned R∧Inv (two (rb f b l vb ra rc S) Z).own w w' [two (rb f b l vb ra rc S) Z]):
  Calls prog k (args #[v]) w λe w'=>e=.returned R∧Inv T w0 w' m:=by
 subst hv;unfold MF at hS;unfold tV;by_cases hu:nM C i=true
 ·have hp:zI (upr X Y C i) (bF X Y C):=vM hi (by simp_all[nM.eq_1])
  grind[zI.own,Go.Calls.mono,zI.same]
 ·rw[if_neg hu]at hS|-
  have hp:zI (two (rb i (bs i) (ls i) 0 none 0 S) (nZ True)) (gY (List.range 5) (vN C bs ls)):=by
   refine zI.gY (i:=i) ?_ (tQ hi);unfold vN;rw[if_neg hu,hS];exact zI.refl _
  rw[hS];exact(hg _ _ _ _ _ _ _ (hp.own hI hf)).mono λe w' h=>⟨h.1,hp.same hI hf h.2⟩
theorem yc(hi:i<5)(hS:MF C i=some S)(hI:Inv T w0 w m)(hc:bF X Y C∈m)(hf:gY (List.range 5) (vN C bs ls)∈m){v}(hv:tV Y C bs i=v):
  Calls prog 15 #[v] w λe w'=>e=.returned (ia S.view)∧Inv T w0 w' m:=
 abH (args:=id) hi hS hI hc hf hv λf b l vb rc ra Z h=>abD w f b l vb rc ra S Z h
theorem abI(hi:i<5)(hS:MF C i=some S)(hI:Inv T w0 w m)(hc:bF X Y C∈m)(hf:gY (List.range 5) (vN C bs ls)∈m){v}(hv:tV Y C bs i=v)(who):
  Calls prog 20 #[v,.int .i64 who] w λe w'=>e=.returned (.tuple #[ia (OH S who),.bool (alZ S who)])∧Inv T w0 w' m:=
 abH (args:=λa=>a.push (.int .i64 who)) hi hS hI hc hf hv λf b l vb rc ra Z h=>Gx w f b l vb rc ra S Z h who
theorem Jt(h:MF C i=none):tV Y C bs i=.pointer none:=by
 unfold MF at h;unfold tV;by_cases hu:nM C i=true
 ·grind
 ·rw[if_neg hu]at h|-;rw[h];rfl
theorem Ju(h:MF C i=some S):∃b,tV Y C bs i=.pointer (some ⟨b,0,none⟩):=by
 unfold MF at h;unfold tV;by_cases hu:nM C i=true
 ·simp_all
 ·rw[if_neg hu]at h|-;rw[h];exact⟨_,rfl⟩
end
def yf(S:RS)(bk:List Int):Nat->List Int
 |0=>bk
 |j+1=>aeN (yf S bk j) (j:Int) (OH S (j:Int))
def akq(o:Option RS)(bk:List Int):List Int:=match o with
 |none=>bk
 |some S=>yf S bk 5
def qV(C:CS):Nat->List Int
 |0=>au 870
 |i+1=>akq (MF C i) (qV C i)
def tX(C:CS):List Int:=qV C 5
section
variable (w0:World)(X:CX)(Y:CY)(C:CS)(hM:∀i,i<5->∀S,MF C i=some S->bB S)(hI:Inv (bF X Y C).own w0 w0 [bF X Y C])
include hI hM
theorem Uh:Calls prog 21 #[.pointer (some ⟨X.cb,0,none⟩)] w0 λe w'=>∃b,e=.returned (.pointer (some ⟨b,0,none⟩))∧Inv (bF X Y C).own w0 w' [ib b 96 (tX C),bF X Y C]:=by
 unfold tX;go_enter func21,ntmps21;go_wp2_with(first|go_at_call 32;refine KK hI (Gz _ X Y C (hI.at_ aM)) ?_;intro bs ls w1 hI|(with_reducible refine DT hI (k:=?_));intro bo w hI)
 go_loopg [5,6,8,12] 5 (λkk s5 s6 s8 s12 wr=>∃(i:Nat) (bk:List Int),kk=5-i∧i<=5∧s12=.int .i64 (i:Int)∧Hid (qV C i=bk∧bk.length=870)∧Inv (bF X Y C).own w0 wr [gY (List.range 5) (vN C bs ls),ib bo 96 bk,bF X Y C])
 case atStart=>exact⟨0,_,rfl,by omega,rfl,HD ⟨rfl,ag 870⟩,hI⟩
 case round=>
  clear hI;obtain⟨i,bk,rfl,hi,rfl,hb,hI⟩:=hrel;by_cases h5:i=5
  ·subst h5
   go_wp2_with(fail);go_ret;rw[hb.out.1];exact⟨bo,rfl,hI.tl⟩
  ·have hi5:i<5:=by omega
   have hd:decide ((i:Int) <5)=true:=by simp;omega
   obtain⟨o,Lv⟩:=EH (MF C i);cases o with
   |none=>
    have hp:=HD (Jt (Y:=Y) (bs:=bs) Lv.out);have hb2:Hid (qV C (i+1)=bk∧bk.length=870):=HD ⟨by rw[qV,Lv.out,hb.out.1];rfl,hb.out.2⟩;go_wp2_with((with_reducible refine Js (i:=i) hi5 (k:=?_));rw[hp.out]);go_roundg (5- (i+1))
    case measure=>omega
    case rel=>exact⟨i+1,bk,rfl,by omega,rfl,hb2,hI⟩
   |some S=>
    obtain⟨pb,hpb⟩:=Ju (Y:=Y) (bs:=bs) Lv.out;have hp:=HD hpb;have Dj:=(hM i hi5 S Lv.out).aT;clear hpb;go_wp2_with((with_reducible refine Js (i:=i) hi5 (k:=?_));rw[hp.out])
    go_loopg [6,8,17] 5 (λkk s6 s8 s17 wr=>∃(j:Nat) (bj:List Int),kk=5-j∧j<=5∧s17=.int .i64 (j:Int)∧Hid (yf S bk j=bj∧bj.length=870)∧Inv (bF X Y C).own w0 wr [gY (List.range 5) (vN C bs ls),ib bo 96 bj,bF X Y C])
    case atStart=>exact⟨0,bk,rfl,by omega,rfl,HD ⟨rfl,hb.out.2⟩,hI⟩
    case round=>
     clear hI;obtain⟨j,bj,rfl,hj,rfl,hbj,hI⟩:=hrel;by_cases air:j=5
     ·subst air
      have hb2:Hid (qV C (i+1)=bj∧bj.length=870):=HD ⟨by rw[qV,Lv.out,hb.out.1];exact hbj.out.1,hbj.out.2⟩;go_wp2_with(fail);go_roundg (5- (i+1))
      case measure=>omega
      case rel=>exact⟨i+1,bj,rfl,by omega,rfl,hb2,hI⟩
     ·have GV:j<5:=by omega
      have hdj:decide ((j:Int) <5)=true:=by simp;omega
      have hrl:(OH S (j:Int)).length=174:=l8 Dj GV;have hbn:Hid (yf S bk (j+1)=aeN bj (j:Int) (OH S (j:Int))∧(aeN bj (j:Int) (OH S (j:Int))).length=870):=HD ⟨by rw[yf,hbj.out.1],zh hbj.out.2 hrl⟩;go_wp2_with(first|go_at_call 20;refine KE (abI hi5 Lv.out hI a_ aC hp.out _) ?_;intro w1 hI|go_at_call 48;refine KC qN hI (aeO _ bo 96 bj hbj.out.2 (hI.at_ a_) (j:Int) (OH S (j:Int)) (l8 Dj GV)) ?_;intro w1 hI|(with_reducible refine JJ hI (vs:=OH S (j:Int)) (zs:=au 174) (k:=?_);intro w hI)|with_reducible refine LU hI (zs:=OH S (j:Int)) (k:=?_)|refine YX ?_;intro bx w hI);go_roundg (5- (j+1))
      case measure=>omega
      case rel=>exact⟨j+1,_,rfl,by omega,rfl,hbn,hI.sub SB⟩
end
end
section
open B (eu pF)
theorem al1:prog.underlying 30=some (.struct (prog.fieldsOf 30)):=by kernel_rfl
theorem al2:(prog.fieldsOf 30)[0]? =some (((prog.fieldsOf 30)[0]?).getD default):=by kernel_rfl
theorem al3:(((prog.fieldsOf 30)[0]?).getD default).type=3:=by kernel_rfl
theorem al4:(((prog.fieldsOf 30)[0]?).getD default).offset=0:=by kernel_rfl
theorem afO{ops Q a rest w dst pos af x ty zs}(hx:a.eval x=ia zs)(hl:zs.length=7)(k:wpList prog ops Q rest (a.put dst (.int .i64 (gi zs 0))) w):wpList prog ops Q (⟨dst,.field 30 x 0,ty,pos,af,none⟩::rest) a w:=
 yJ hx al1 al2 al3 al4 (aQ.out (t:=3)) OM k
def A7(o:Option RS)(p:List Int×Bool):List Int×Bool:=match o with
 |none=>p
 |some S=>if p.2=false∨gi p.1 0<gi S.view 0 then(S.view,true)else p
def oP(C:CS):Nat->List Int×Bool
 |0=>(eu,false)
 |i+1=>A7 (MF C i) (oP C i)
def xu(C:CS):List Int:=(oP C 5).1
section
variable (w0:World)(X:CX)(Y:CY)(C:CS)(hM:∀i,i<5->∀S,MF C i=some S->bB S)(hI:Inv (bF X Y C).own w0 w0 [bF X Y C])
include hI hM
theorem abJ:Calls prog 12 #[.pointer (some ⟨X.cb,0,none⟩)] w0 λe w'=>e=.returned (ia (xu C))∧Inv (bF X Y C).own w0 w' [bF X Y C]:=by
 unfold xu;have hfl:eu.length=7:=rfl;go_enter func12,ntmps12;go_upto_region 1 with((with_reducible refine DT hI (k:=?_));intro br w hI)
 go_wp2_with(first|go_at_call 32;refine KK hI (Gz _ X Y C (hI.at_ a_)) ?_;intro bs ls w1 hI|go_at_call 31;refine KD hI (pF _) ?_;intro w1 hI|(with_reducible refine DT hI (k:=?_));intro bl w hI|refine YS ?_;intro w hI)
 go_loopg [4,6,10] 5 (λkk s4 s6 s10 wr=>∃(i:Nat) (v:List Int) (kn:Bool),kk=5-i∧i<=5∧s10=.int .i64 (i:Int)∧s4=.bool kn∧Hid (oP C i=(v,kn)∧v.length=7)∧Inv (bF X Y C).own w0 wr [gY (List.range 5) (vN C bs ls),ib bl 30 v,ib br 30 (au 7),bF X Y C])
 case atStart=>exact⟨0,_,false,rfl,by omega,rfl,rfl,HD ⟨rfl,rfl⟩,hI⟩
 case round=>
  clear hI;obtain⟨i,v,kn,rfl,hi,rfl,rfl,hv,hI⟩:=hrel;by_cases h5:i=5
  ·subst h5
   have hvl:=hv.out.2;go_wp2_with(first|refine YL ?_|refine YS ?_;intro w hI);rw[hv.out.1];exact bodyPost_ret (dY hI rfl rfl a_ (bP.out (t:=30)) hvl) rfl ⟨rfl,hI.sub SB⟩
  ·have hi5:i<5:=by omega
   have hd:decide ((i:Int) <5)=true:=by simp;omega
   obtain⟨o,Lv⟩:=EH (MF C i);cases o with
   |none=>
    have hp:=HD (Jt (Y:=Y) (bs:=bs) Lv.out);have hb2:Hid (oP C (i+1)=(v,kn)∧v.length=7):=HD ⟨by rw[oP,Lv.out,hv.out.1];rfl,hv.out.2⟩;go_upto_region 5 with((with_reducible refine Js (i:=i) hi5 (k:=?_));rw[hp.out])
    (refine ZR [0,1,2,3,4,5,7,11,12,13] [9,10] [7] [0,1,2,3,4,5,6,9,10,7,8,11,12,13] (λw=>Inv (bF X Y C).own w0 w [gY (List.range 5) (vN C bs ls),ib bl 30 v,ib br 30 (au 7),bF X Y C]) hI ?_;intro wd hI)
    (repeat(first|refine ZS ?_|refine ZQ ?_;go_wp2_with(fail);refine ZP ?_))
    go_wp2_with(fail);go_roundg (5- (i+1))
    case measure=>omega
    case rel=>exact⟨i+1,v,kn,rfl,by omega,rfl,rfl,hb2,hI⟩
   |some S=>
    obtain⟨pb,hpb⟩:=Ju (Y:=Y) (bs:=bs) Lv.out;have hp:=HD hpb;have hvl:=(hM i hi5 S Lv.out).view;have amB:=hv.out.2;clear hpb;cases kn
    ·have hb2:Hid (oP C (i+1)=(S.view,true)∧S.view.length=7):=HD ⟨by rw[oP,Lv.out,hv.out.1];rfl,hvl⟩
     go_upto_region 5 with((with_reducible refine Js (i:=i) hi5 (k:=?_));rw[hp.out])
     (refine ZR [0,1,2,3,4,5,7,11,12,13] [9,10] [7] [0,1,2,3,4,5,6,9,10,7,8,11,12,13] (λw=>Inv (bF X Y C).own w0 w [gY (List.range 5) (vN C bs ls),ib bl 30 v,ib br 30 (au 7),bF X Y C]) hI ?_;intro wd hI)
     (repeat(first|refine ZS ?_|refine ZQ ?_;go_wp2_with(fail);refine ZP ?_))
     go_wp2_with(first|go_at_call 15;refine KE (yc hi5 Lv.out hI nz aC hp.out) ?_;intro w1 hI|refine YS ?_;intro w hI);go_roundg (5- (i+1))
     case measure=>omega
     case rel=>exact⟨i+1,S.view,true,rfl,by omega,rfl,rfl,hb2,hI⟩
    ·obtain⟨q,hq⟩:=EH (decide (gi v 0<gi S.view 0))
     have hq2:=hq.out;cases q
     ·have hb2:Hid (oP C (i+1)=(v,true)∧v.length=7):=HD ⟨by rw[oP,Lv.out,hv.out.1,A7];exact if_neg (by simpa using hq.out),hv.out.2⟩
      go_upto_region 5 with((with_reducible refine Js (i:=i) hi5 (k:=?_));rw[hp.out])
      (refine ZR [0,1,2,3,4,5,7,11,12,13] [9,10] [7] [0,1,2,3,4,5,6,9,10,7,8,11,12,13] (λw=>Inv (bF X Y C).own w0 w [gY (List.range 5) (vN C bs ls),ib bl 30 v,ib br 30 (au 7),bF X Y C]) hI ?_;intro wd hI)
      (repeat(first|refine ZS ?_|refine ZQ ?_;go_wp2_with(first|go_at_call 15;refine KE (yc hi5 Lv.out hI nz aC hp.out) ?_;intro w1 hI|with_reducible refine afO (zs:=S.view) RF hvl (k:=?_));refine ZP ?_))
      go_wp2_with(fail);go_roundg (5- (i+1))
      case measure=>omega
      case rel=>exact⟨i+1,v,true,rfl,by omega,rfl,rfl,hb2,hI⟩
     ·have hb2:Hid (oP C (i+1)=(S.view,true)∧S.view.length=7):=HD ⟨by rw[oP,Lv.out,hv.out.1,A7];exact if_pos (by simpa using hq.out),hvl⟩
      go_upto_region 5 with((with_reducible refine Js (i:=i) hi5 (k:=?_));rw[hp.out])
      (refine ZR [0,1,2,3,4,5,7,11,12,13] [9,10] [7] [0,1,2,3,4,5,6,9,10,7,8,11,12,13] (λw=>Inv (bF X Y C).own w0 w [gY (List.range 5) (vN C bs ls),ib bl 30 v,ib br 30 (au 7),bF X Y C]) hI ?_;intro wd hI)
      (repeat(first|refine ZS ?_|refine ZQ ?_;go_wp2_with(first|go_at_call 15;refine KE (yc hi5 Lv.out hI nz aC hp.out) ?_;intro w1 hI|with_reducible refine afO (zs:=S.view) RF hvl (k:=?_));refine ZP ?_))
      go_wp2_with(first|go_at_call 15;refine KE (yc hi5 Lv.out hI nz aC hp.out) ?_;intro w1 hI|refine YS ?_;intro w hI);go_roundg (5- (i+1))
      case measure=>omega
      case rel=>exact⟨i+1,S.view,true,rfl,by omega,rfl,rfl,hb2,hI⟩
end
end
section
open B (eu pF dw)
theorem yg(w0 v who)(hv:v.length=7)(hw:Hid (eG v)){h q}(hr:dw v who=(h,q)):
  Calls prog 17 #[ia v,.int .i64 who] w0 λe w'=>e=.returned (.tuple #[.int .i64 h,.bool q])∧Below w0.heap.size w0 w':=mW w0 v who hv hw _ hr
theorem abK{ops Q a rest w dst ty pos af x y k0 zs}{i:Nat}(hi:i<5)(hl:zs.length=5)(hx:a.eval x=ia zs:=by exact RF)(hy:a.eval y=.int k0 (i:Int):=by exact RF)
  (k:wpList prog ops Q rest (a.put dst (.int .i64 (gi zs i))) w):wpList prog ops Q (⟨dst,.index 28 x y,ty,pos,af,none⟩::rest) a w:=
 aiU hx hy OM OM hl k
def owF(v:List Int)(i:Nat):Int:=if(dw v (i:Int)).2=true then(dw v (i:Int)).1 else(i:Int)
def Lh(v:List Int):Nat->List Int
 |0=>au 5
 |i+1=>(Lh v i).set i (owF v i)
theorem OI(v):∀i,(Lh v i).length=5
 |0=>ag 5
 |i+1=>by rw[Lh,List.length_set];exact OI v i
def A8(v:List Int):List Int:=Lh v 5
theorem abL(w0 v)(hvl:v.length=7)(h64:Hid (eG v)):Calls prog 57 #[ia v] w0 λe w'=>e=.returned (ia (A8 v))∧Below w0.heap.size w0 w':=by
 have hI:=Inv.start w0;unfold A8;go_enter func57,ntmps57;go_upto_region 1 with(first|(with_reducible refine DT hI (k:=?_));intro br w hI|(with_reducible refine aiT hI (k:=?_));intro bv w hI)
 go_wp2_with((with_reducible refine DT hI (k:=?_));intro bl w hI)
 go_loopg [4,5,6,7] 5 (λkk s4 s5 s6 s7 wr=>∃(i:Nat) (zs:List Int),kk=5-i∧i<=5∧s7=.int .i64 (i:Int)∧Hid (Lh v i=zs∧zs.length=5)∧Inv [] w0 wr [ib bl 28 zs,ib br 28 (au 5),ib bv 30 v])
 case atStart=>exact⟨0,_,rfl,by omega,rfl,HD ⟨rfl,ag 5⟩,hI⟩
 case round=>
  clear hI;obtain⟨i,zs,rfl,hi,rfl,hz,hI⟩:=hrel;have hzl:=hz.out.2;by_cases h5:i=5
  ·subst h5
   go_wp2_with(first|refine YL ?_|refine YS ?_;intro w hI);rw[hz.out.1];exact bodyPost_ret (dY hI rfl rfl aM (bP.out (t:=28)) hzl) rfl ⟨rfl,hI.below⟩
  ·have hi5:i<5:=by omega
   have hd:decide ((i:Int) <5)=true:=by simp;omega
   obtain⟨h,q,hh⟩:∃h q,Hid (dw v (i:Int)=(h,q)):=⟨_,_,HD rfl⟩;cases q
   ·have hb2:Hid (Lh v (i+1)=zs.set i (i:Int)∧(zs.set i (i:Int)).length=5):=HD ⟨by rw[Lh,hz.out.1,owF,hh.out];rfl,by rw[List.length_set];exact hzl⟩
    go_wp2_with(first|go_at_call 17;refine KD hI (yg _ v (i:Int) hvl h64 hh.out) ?_;intro w1 hI|refine YL ?_|refine YS ?_;intro w hI);go_roundg (5- (i+1))
    case measure=>omega
    case rel=>exact⟨i+1,_,rfl,by omega,rfl,hb2,hI⟩
   ·have hb2:Hid (Lh v (i+1)=zs.set i h∧(zs.set i h).length=5):=HD ⟨by rw[Lh,hz.out.1,owF,hh.out];rfl,by rw[List.length_set];exact hzl⟩
    go_wp2_with(first|go_at_call 17;refine KD hI (yg _ v (i:Int) hvl h64 hh.out) ?_;intro w1 hI|refine YL ?_|refine YS ?_;intro w hI);go_roundg (5- (i+1))
    case measure=>omega
    case rel=>exact⟨i+1,_,rfl,by omega,rfl,hb2,by rw[show zs.set i h=(zs.set i (i:Int)).set i h by rw[List.set_set]];exact hI⟩
theorem aeP(w0)(b e:Nat)(m)(hk:C.Bk m)(hI:Inv (ib b e m).own w0 w0 [ib b e m])(jL key):
  Calls prog 56 #[.pointer (some ⟨b,0,none⟩),.int .i64 jL,.int .i64 key] w0 λen w'=>en=.returned (ia (C.uH m jL key))∧Inv (ib b e m).own w0 w' [ib b e m]:=by
 rw[<-Dr]at*
 simp_all[C.Kq]
abbrev abM(m:List Int)(jL key:Int):List Int:=C.uH m jL key
theorem abN{m}(h:C.Bk m)(jL key):(abM m jL key).length=7:=(C.pM h jL key).1
abbrev RL(m:List Int):Prop:=C.Bk m
def OJ(m:List Int)(key:Int):Nat->List Int
 |0=>au 35
 |i+1=>dK (OJ m key i) (i*7) (abM m (i:Int) key)
def afP(cs:List Int)(i o:Nat)(ss:List Int):List Int:=ss.set o (wrap64 (gi ss o+wrap64 (gi cs (i*7) -gi cs (i*7+1))))
def r9(cs:List Int)(i o:Nat)(ss:List Int):Nat->List Int
 |0=>afP cs i o ss
 |j+1=>(r9 cs i o ss j).set o (wrap64 (gi (r9 cs i o ss j) o+wrap64 (gi cs (j*7+2+i) -gi cs (i*7+2+j))))
def A9(cs os:List Int):Nat->List Int
 |0=>au 5
 |i+1=>if gi os i<0∨5<=gi os i then A9 cs os i else r9 cs i (gi os i).toNat (A9 cs os i) 5
theorem zC(cs i o){ss}(h:ss.length=5):∀j,(r9 cs i o ss j).length=5
 |0=>by grind[r9.eq_1,afP.eq_1]
 |j+1=>by rw[r9,List.length_set];exact zC cs i o h j
def Dt(C:CS)(key:Nat):List Int:=A9 (OJ (tX C) (key:Int) 5) (A8 (xu C)) 5
theorem GA(cs os):∀i,(A9 cs os i).length=5
 |0=>ag 5
 |i+1=>by
  rw[A9];split
  ·exact GA cs os i
  ·exact zC cs i _ (GA cs os i) 5
section
variable (w0:World)(X:CX)(Y:CY)(C:CS)(hM:∀i,i<5->∀S,MF C i=some S->bB S)(hI:Inv (bF X Y C).own w0 w0 [bF X Y C])
variable (ais:RL (tX C))(hvl:(xu C).length=7)(h64:Hid (eG (xu C)))
include hI hM ais hvl h64
theorem abO(key:Nat)(hk4:key<4):Calls prog 27 #[.pointer (some ⟨X.cb,0,none⟩),.int .i64 (key:Int)] w0 λe w'=>e=.returned (ia (Dt C key))∧Inv (bF X Y C).own w0 w' [bF X Y C]:=by
 have hd0:decide ((key:Int) <0)=false:=by simp
 have hd4:decide ((4:Int)<=(key:Int))=false:=by simp;omega
 obtain⟨tr,htr⟩:=EH (tX C);have hBk:Hid (RL tr):=HD (by rw[<-htr.out];exact ais);clear ais;unfold Dt;rw[htr.out];go_enter func27,ntmps27;go_upto_region 1 with((with_reducible refine DT hI (k:=?_));intro br w hI)
 go_upto_region 5 with(first|(with_reducible refine DT hI (k:=?_));intro bl w hI|(go_at_call 21;(with_reducible refine(Uh _ X Y C hM (hI.at_ a_)).mono ?_);rintro e w1 ⟨bt,rfl,hJ⟩;replace hI:=hI.Uu hJ qN;clear hJ);rw[htr.out]at hI|refine YL ?_)
 go_wp2_with((with_reducible refine DT hI (k:=?_));intro bc w hI)
 go_loopg [8,21] 5 (λkk s8 s21 wr=>∃(i:Nat) (zs:List Int),kk=5-i∧i<=5∧s21=.int .i64 (i:Int)∧Hid (OJ tr (key:Int) i=zs∧zs.length=35)∧Inv (bF X Y C).own w0 wr [ib bc 118 zs,ib bt 96 tr,ib bl 28 (au 5),ib br 28 (au 5),bF X Y C])
 case atStart=>exact⟨0,_,rfl,by omega,rfl,HD ⟨rfl,ag 35⟩,hI⟩
 case round=>
  clear hI;obtain⟨i,zs,rfl,hi,rfl,hz,hI⟩:=hrel;have hzl:=hz.out.2;by_cases h5:i=5
  ·subst h5
   go_wp2_with(first|go_at_call 12;refine KC uu4 hI (abJ _ X Y C hM (hI.at_ mm4)) ?_;intro w1 hI|go_at_call 57;refine KD hI (abL _ (xu C) hvl h64) ?_;intro w1 hI);have aeQ:(A8 (xu C)).length=5:=OI _ 5;obtain⟨os,hos⟩:=EH (A8 (xu C));rw[hos.out]at aeQ;rw[hos.out]
   go_loopg [9,10,11,34] 5 (λkk s9 s10 s11 s34 wr=>∃(i:Nat) (ss:List Int),kk=5-i∧i<=5∧s34=.int .i64 (i:Int)∧Hid (A9 zs os i=ss∧ss.length=5)∧Inv (bF X Y C).own w0 wr [ib bc 118 zs,ib bt 96 tr,ib bl 28 ss,ib br 28 (au 5),bF X Y C])
   case atStart=>exact⟨0,_,rfl,by omega,rfl,HD ⟨rfl,ag 5⟩,hI⟩
   case round=>
    clear hI;obtain⟨i,ss,rfl,hi,rfl,hs,hI⟩:=hrel;have hsl:=hs.out.2;by_cases h5:i=5
    ·subst h5
     go_wp2_with(first|refine YL ?_|refine YS ?_;intro w hI);rw[hz.out.1,hos.out,hs.out.1];exact bodyPost_ret (dY hI rfl rfl nz (bP.out (t:=28)) hsl) rfl ⟨rfl,hI.sub SB⟩
    ·have hi5:i<5:=by omega
     have hd:decide ((i:Int) <5)=true:=by simp;omega
     obtain⟨oz,hoz⟩:=EH (gi os i);by_cases hr:oz<0∨5<=oz
     ·have hs2:Hid (A9 zs os (i+1)=ss∧ss.length=5):=HD ⟨by rw[A9,hoz.out,if_pos hr,hs.out.1],hsl⟩
      by_cases hn:oz<0
      ·have hd1:decide (oz<0)=true:=by simpa using hn
       clear hr hn;go_wp2_with((with_reducible refine abK (i:=i) hi5 aeQ (k:=?_));rw[hoz.out]);go_roundg (5- (i+1))
       case measure=>omega
       case rel=>exact⟨i+1,ss,rfl,by omega,rfl,hs2,hI⟩
      ·have hd1:decide (oz<0)=false:=by simpa using hn
       have hd2:decide (5<=oz)=true:=by simp;omega
       clear hr hn;go_wp2_with(first|(with_reducible refine abK (i:=i) hi5 aeQ (k:=?_));rw[hoz.out]|refine YL ?_);go_roundg (5- (i+1))
       case measure=>omega
       case rel=>exact⟨i+1,ss,rfl,by omega,rfl,hs2,hI⟩
     ·obtain⟨o,ho⟩:∃o:Nat,oz=(o:Int):=⟨oz.toNat,by omega⟩
      subst ho;have ho5:o<5:=by omega
      have hd1:decide ((o:Int) <0)=false:=by simp
      have hd2:decide ((5:Int)<=(o:Int))=false:=by simp;omega
      have hs2:Hid (A9 zs os (i+1)=r9 zs i o ss 5):=HD (by rw[A9,hoz.out,if_neg hr,hs.out.1,Int.toNat_natCast]);clear hr;go_upto_region 15 with(first|(with_reducible refine abK (i:=i) hi5 aeQ (k:=?_));rw[hoz.out]|refine YL ?_)
      refine ZT [12,13,14] 15 hI ?_;intro wd hI
      (repeat(refine ZQ ?_;go_wp2_with(first|refine YS ?_;intro w hI|refine YL ?_);refine ZP ?_))
      go_wp2_with(fail)
      go_loopg [11,58] 5 (λkk s11 s58 wr=>∃(j:Nat) (sj:List Int),kk=5-j∧j<=5∧s58=.int .i64 (j:Int)∧Hid (r9 zs i o ss j=sj∧sj.length=5)∧Inv (bF X Y C).own w0 wr [ib bc 118 zs,ib bt 96 tr,ib bl 28 sj,ib br 28 (au 5),bF X Y C])
      case atStart=>exact⟨0,_,rfl,by omega,rfl,HD ⟨rfl,zC zs i o hsl 0⟩,hI⟩
      case round=>
       clear hI;obtain⟨j,sj,rfl,hj,rfl,hsj,hI⟩:=hrel;have akr:=hsj.out.2;by_cases air:j=5
       ·subst air
        have hs3:Hid (A9 zs os (i+1)=sj∧sj.length=5):=HD ⟨by rw[hs2.out,hsj.out.1],akr⟩;go_wp2_with(fail);go_roundg (5- (i+1))
        case measure=>omega
        case rel=>exact⟨i+1,sj,rfl,by omega,rfl,hs3,hI⟩
       ·have GV:j<5:=by omega
        have hdj:decide ((j:Int) <5)=true:=by simp;omega
        have hs3:Hid (r9 zs i o ss (j+1)=sj.set o (wrap64 (gi sj o+wrap64 (gi zs (j*7+2+i) -gi zs (i*7+2+j))))∧(sj.set o (wrap64 (gi sj o+wrap64 (gi zs (j*7+2+i) -gi zs (i*7+2+j))))).length=5):=HD ⟨by rw[r9,hsj.out.1],by rw[List.length_set];exact akr⟩;go_upto_region 19 with(fail)
        refine ZT [16,17,18] 19 hI ?_;intro wd hI
        (repeat(refine ZQ ?_;go_wp2_with(first|refine YS ?_;intro w hI|refine YL ?_);refine ZP ?_))
        go_wp2_with(fail);go_roundg (5- (j+1))
        case measure=>omega
        case rel=>exact⟨j+1,_,rfl,by omega,rfl,hs3,hI⟩
  ·have hi5:i<5:=by omega
   have hd:decide ((i:Int) <5)=true:=by simp;omega
   have hcl:(abM tr (i:Int) (key:Int)).length=7:=abN hBk.out _ _;have hz2:Hid (OJ tr (key:Int) (i+1)=dK zs (i*7) (abM tr (i:Int) (key:Int))∧(dK zs (i*7) (abM tr (i:Int) (key:Int))).length=35):=HD ⟨by rw[OJ,hz.out.1],by rw[aY];omega⟩;go_wp2_with(first|go_at_call 56;refine KC jo hI (aeP _ bt 96 tr hBk.out (hI.at_ aM) (i:Int) (key:Int)) ?_;intro w1 hI|refine YS ?_;intro w hI);go_roundg (5- (i+1))
   case measure=>omega
   case rel=>exact⟨i+1,_,rfl,by omega,rfl,hz2,hI⟩
end
end
