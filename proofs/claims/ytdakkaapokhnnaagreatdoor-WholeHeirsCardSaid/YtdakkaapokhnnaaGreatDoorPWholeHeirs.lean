/- The given card of WholeHeirs is proved. No condition. -/
import Derived.Test.YtdakkaapokhnnaaGreatDoorCards
import Derived.Test.YtdakkaapokhnnaaGreatDoorTie
import Derived.Test.YtdakkaapokhnnaaGreatDoorZ36
namespace Go.Proofs.YtdakkaapokhnnaaGreatDoor
open Go.RowKit Go.Proofs.Tryz
set_option maxRecDepth 100000
set_option maxHeartbeats 6400000
set_option linter.all false
abbrev tabO:=@u6
section
open B (aI dw eu bK qM eB)
def Hs(v:List Int)(p i:Nat):Prop:=gi v (2+p)=i+1∨gi v (2+i)≠0∧gi v (2+p)=gi v (2+i)
theorem ae3{v c n}(g:B.Good v n)(h:(qM v c).2=0){p i}(hp:p<5)(hi:i<5):(Hs v p i->Hs (qM v c).1 p i)∧(gi v (2+i)≠0->gi (qM v c).1 (2+i)≠0):=by
 obtain⟨m,_,hm,em⟩:=g.mem;unfold qM at h|-
 split
 ·obtain⟨k,d,hk,hd,e0,e1,e2,hh,hb⟩:=B.P7 ‹_›
  have:=(B.Cg g hk hm em e1 (e1▸hb)).2.2.2
  grind[Hs]
 ·split
  ·obtain⟨k,d,hk,hd,hdk,e0,e1,e2,hb,hbd⟩:=B.P8 ‹_›
   have a:=(B.Ch g hk hm em e1 e2 hb).2.2.2;have b:=g.CW k hk
   grind[Hs]
  ·grind
theorem ae4{v c}(hl:v.length=7)(h0:o8 (gi v 0))(h:(bK v c).2=0)(hlt:gi v 0<gi (bK v c).1 0):qM v c=((bK v c).1,0):=by
 have e:∀x:List Int,x.length=7->gi v 0<gi (x.set 0 (wrap64 (gi v 0+1))) 0->wrap64 (gi v 0+1)=gi v 0+1:=λx hx hh=>by
  rw[B.uC OM]at hh;unfold o8 at h0;unfold wrap64 at*;omega
 unfold qM;unfold bK at h hlt|-
 split
 ·grind[B.wU,B.Cc]
 ·split
  ·grind[B.za,B.Cf,B.Br]
  grind
structure Gh where
 vs:List (List Int)
 pr:Int->Nat->Int->Int->Prop
 pu:Int->Int->List Int->Prop
 tk:Int->Nat->Int->List Int->Prop
def bn(b:List Int):Int:=gi b 0*8+gi b 1
def yl(b:List Int):Prop:=b.length=2∧0<=gi b 0∧gi b 0<=9223372036854775807∧0<=gi b 1∧gi b 1<5
def zF(c:List Int):Prop:=c.length=3∧0<=gi c 0∧gi c 0<2∧0<=gi c 1∧gi c 1<5∧0<=gi c 2∧gi c 2<5
theorem Uj{a b}(ha:yl a)(hb:yl b):B.kM (gi a 0) (gi a 1) (gi b 0) (gi b 1)=decide (bn a<bn b):=by
 unfold B.kM bn;unfold yl at*
 grind
def Lr(G:Gh)(v c:List Int):Prop:=∃n M,eB M (gi v 1)=true∧∀a,a<5->bt M a=true->G.tk (gi v 0) a n c
structure GI (G:Gh):Prop where
 first:G.vs[0]? =some eu
 step:∀k v w,G.vs[k]? =some v->G.vs[k+1]? =some w->∃c,qM v c=(w,0)∧Lr G v c
 tp:∀e a n c,G.tk e a n c->G.pu e n c
 one:∀e n c d,G.pu e n c->G.pu e n d->c=d
 pr:∀e a n h,G.pr e a n h->∀m c,G.tk e a m c->m<n->m<=h
 le:∀e a n h,G.pr e a n h->h<=n
 pu:∀e n c,G.pu e n c->8<=n∧zF c∧∃v∈G.vs,gi v 0=e∧∃M b,eB M (gi v 1)=true∧b<n∧(8<=b->G.pu e b c)∧∀a,a<5->bt M a=true->∃h,G.pr e a n h∧(8<=h->h<=b)
theorem JA{a b q}(h1:eB a q=true)(h2:eB b q=true):∃k,k<5∧bt a k=true∧bt b k=true:=by
 have h:=B.Pv a b q h1 h2;rw[B.Cb]at h;have e:∀k,k<5->bt (bits BinOp.and IntKind.i64 (bits BinOp.and IntKind.i64 a b) q) k=(bt a k&&bt b k&&bt q k):=λk hk=>by grind[Bh]
 grind
section
variable {G:Gh}(g:GI G)
include g
theorem GI.good:∀(k:Nat) {v},G.vs[k]? =some v->B.Good v (k+1)
 |0,v,h=>by grind[GI.first,B.Good.first]
 |k+1,v,h=>by
  have hw:=List.getElem?_eq_getElem (l:=G.vs) (i:=k) (by grind);generalize G.vs[k]'_=w at hw;obtain⟨c,hc,_⟩:=g.step k w v hw h;rcases(GI.good k hw).next c with⟨_,h2⟩ |h2
  all_goals grind
theorem GI.at_{v}(h:v∈G.vs):∃k:Nat,G.vs[k]? =some v∧B.Good v (k+1):=by
 grind[List.getElem?_of_mem,GI.good]
theorem GI.same{v w}(hv:v∈G.vs)(hw:w∈G.vs)(h:gi v 0=gi w 0):v=w:=by
 grind[GI.at_,B.Good.ep]
theorem GI.keep{p i}(hp:p<5)(hi:i<5):∀(d k:Nat) {v w},G.vs[k]? =some v->G.vs[k+d]? =some w->(Hs v p i->Hs w p i)∧(gi v (2+i)≠0->gi w (2+i)≠0)
 |0,k,v,w,h,h2=>by grind
 |d+1,k,v,w,h,h2=>by
  have hu:=List.getElem?_eq_getElem (l:=G.vs) (i:=k+d) (by grind);generalize G.vs[k+d]'_=u at hu;obtain⟨c,hc,_⟩:=g.step (k+d) u w hu h2;have a:=GI.keep hp hi d k h hu;have b:=ae3 (g.good _ hu) (c:=c) (by rw[hc]) hp hi
  grind
theorem GI.later{v w}(hv:v∈G.vs)(hw:w∈G.vs)(h:gi v 0<=gi w 0){p i}(hp:p<5)(hi:i<5):(Hs v p i->Hs w p i)∧(gi v (2+i)≠0->gi w (2+i)≠0):=by
 obtain⟨k,a,b⟩:=g.at_ hv;obtain⟨j,c,d⟩:=g.at_ hw;have:=b.ep;have:=d.ep;exact g.keep hp hi (j-k) k a (by grind)
theorem GI.GL{v c n M}(hM:eB M (gi v 1)=true)(ht:∀a,a<5->bt M a=true->G.tk (gi v 0) a n c)(hv:v∈G.vs):∀k m d,m.toNat=k->n<=m->G.pu (gi v 0) m d->d=c:=λk=>by
 induction k using Nat.strongRecOn with
 |_ k ih=>
  intro m d hk hm hp;obtain⟨h8,_,w,hw,e,Q,b,hQ,hb,h1,h2⟩:=g.pu _ _ _ hp;obtain rfl:=g.same hw hv e;obtain⟨a,ha,q1,q2⟩:=JA hQ hM;have t:=ht a ha q2;have tp:=g.tp _ _ _ _ t;obtain⟨h,hpr,hle⟩:=h2 a ha q1;rcases Int.lt_or_eq_of_le hm with hlt|rfl
  ·have:=g.pr _ _ _ _ hpr _ _ t hlt
   have:=(g.pu _ _ _ tp).1
   grind
  grind[GI.one]
theorem GI.agree{v c d}(hv:v∈G.vs)(hc:Lr G v c)(hd:Lr G v d):c=d:=by
 obtain⟨n,M,h1,h2⟩:=hc;obtain⟨m,Q,h3,h4⟩:=hd;obtain⟨a,ha,q1,q2⟩:=JA h1 h3;have t:=g.tp _ _ _ _ (h2 a ha q1);have s:=g.tp _ _ _ _ (h4 a ha q2);rcases Int.le_total n m with h|h
 ·exact(g.GL h1 h2 hv _ m d rfl h s).symm
 ·exact g.GL h3 h4 hv _ n c rfl h t
end
structure yu (f:Nat) (G H:Gh):Prop where
 vs:∃l,H.vs=G.vs++l
 pr:∀e a n h,G.pr e a n h->H.pr e a n h
 pu:∀e n c,G.pu e n c->H.pu e n c
 tk:∀e a n c,G.tk e a n c->H.tk e a n c
 pr':∀e a n h,H.pr e a n h->G.pr e a n h∨a=f
 pu':∀e n c,H.pu e n c->G.pu e n c∨n%8=f
 tk':∀e a n c,H.tk e a n c->G.tk e a n c∨a=f
theorem yu.refl(f G):yu f G G:=⟨⟨[],by simp⟩,λ_ _ _ _ h=>h,λ_ _ _ h=>h,λ_ _ _ _ h=>h,λ_ _ _ _ h=> .inl h,λ_ _ _ h=> .inl h,λ_ _ _ _ h=> .inl h⟩
theorem yu.trans{f G H K}(h:yu f G H)(k:yu f H K):yu f G K:=by
 obtain⟨l,e⟩:=h.vs;obtain⟨l',e'⟩:=k.vs;exact⟨⟨l++l',by grind⟩,λe a n c q=>k.pr _ _ _ _ (h.pr _ _ _ _ q),λe n c q=>k.pu _ _ _ (h.pu _ _ _ q),λe a n c q=>k.tk _ _ _ _ (h.tk _ _ _ _ q),λe a n c q=>(k.pr' _ _ _ _ q).elim (h.pr' _ _ _ _) .inr,λe n c q=>(k.pu' _ _ _ q).elim (h.pu' _ _ _) .inr,λe a n c q=>(k.tk' _ _ _ _ q).elim (h.tk' _ _ _ _) .inr⟩
theorem yu.mem{f G H}(h:yu f G H){v}(hv:v∈G.vs):v∈H.vs:=by
 grind[yu.vs]
end
section
open B (aI)
theorem RU{ls b}(hl:ls.length=b.length)(h:∀i,i<b.length->0<=gi b i∧gi b i< (ls.getD i 0:Nat)∧gi b i<=9223372036854775807):nn (mf b)=b∧∀tl,bJ ls (ah b++tl)=some (mf b,tl):=by
 have h0:∀i,0<=gi b i:=λi=>by
  by_cases hi:i<b.length
  all_goals simp_all[gi]
 have hn:∀n∈mf b,n<9223372036854775808:=λn hn=>by
  grind[List.mem_iff_getElem?,AJ,mf]
 have e:=Fh hn;rw[show List.map (λn=>((n:Nat):Int)) (mf b)=b from Df h0]at e
 grind[Df,Ql,mf,AJ]
theorem xC{e}(h:mK e)(tl):((e.toNat:Nat):Int)=e∧f_ (ah [e]++tl)=some (e.toNat,tl):=by
 unfold mK at h;rw[F6,show u64 e=e.toNat by grind[u64],show ah []=[]from rfl,List.append_nil]
 grind[Kl]
theorem JR{b}(h:yl b):nn (mf b)=b∧∀tl,bJ dI (ah b++tl)=some (mf b,tl):=by
 obtain⟨h0,h1,h2,h3,h4⟩:=h;refine RU (by rw[h0];rfl) λi hi=>?_
 grind[dI]
theorem XL{c}(h:zF c):nn (mf c)=c∧∀tl,bJ jF (ah c++tl)=some (mf c,tl):=by
 obtain⟨h0,h1,h2,h3,h4,h5,h6⟩:=h;refine RU (by rw[h0];rfl) λi hi=>?_
 grind[jF]
theorem Ls{v n}(g:B.Good v n)(h1:1<=n)(h2:n<=9223372036854775807):ll v=true∧nn (mf v)=v∧∀tl,bJ ko (ah v++tl)=some (mf v,tl):=by
 obtain⟨m,m1,m2,em⟩:=g.mem;have hh:∀i,i<5->0<=gi v (2+i)∧gi v (2+i) <6:=λi hi=>by
  by_cases hz:gi v (2+i)=0
  ·omega
  ·obtain⟨x,hx,ex,_⟩:=B.mem_of (g.CW i hi hz).1;omega
 have e0:=g.ep;refine⟨?_,RU (by rw[g.len];rfl) λi hi=>?_⟩
 ·unfold ll Fx zH okH
  grind[B.Good.CW]
 ·rw[g.len]at hi
  have a:=hh (i-2) OM;rcases(show i=0∨i=1∨i=2∨i=3∨i=4∨i=5∨i=6 by omega)with rfl|rfl|rfl|rfl|rfl|rfl|rfl<;>simp only[ko,List.getD_cons_zero,List.getD_cons_succ]<;>simp at a<;>omega
section
variable {e:Int}{b h c v:List Int}{n:Int}{w:Nat}
theorem Ee{α}(x:α):pE x true []=some x:=rfl
theorem ab1(he:mK e)(hb:yl b):lZ (gQ.ask e b).W=some (.ask e b):=by
 have h1:iI 10 (gQ.ask e b).W=some (3,ah [e]++ah b):=iG (n:=3) (lim:=10) OM OM [e] (ah b);exact aja
theorem RV(he:mK e)(hb:yl b):lZ (gQ.taken e b).W=some (.taken e b):=by
 have h1:iI 10 (gQ.taken e b).W=some (6,ah [e]++ah b):=iG (n:=6) (lim:=10) OM OM [e] (ah b);exact aja
theorem ab2(he:mK e)(hb:yl b)(hc:zF c):lZ (gQ.put e b c).W=some (.put e b c):=by
 have h1:=iG (n:=5) (lim:=10) OM OM [e] (ah b++ah c);rw[<-List.append_assoc]at h1;have h1:iI 10 (gQ.put e b c).W=some (5,ah [e]++(ah b++ah c)):=h1;have c2:=(XL hc).2 [];rw[List.append_nil]at c2;unfold lZ;exact W88
theorem Lt(he:mK e)(hb:yl b)(hh:yl h)(hc:zF c):lZ (gQ.promise e b h c).W=some (.promise e b h c):=by
 have h1:=iG (n:=4) (lim:=10) OM OM [e] (ah b++(ah h++ah c));rw[<-List.append_assoc,<-List.append_assoc]at h1;have h1:iI 10 (gQ.promise e b h c).W=some (4,ah [e]++(ah b++(ah h++ah c))):=h1;have c2:=(XL hc).2 [];rw[List.append_nil]at c2;unfold lZ;simp only[h1,Option.bind_some,(xC he _).2,(JR hb).2,(JR hh).2,c2,Ee,(xC he []).1,(JR hb).1,(JR hh).1,(XL hc).1]
theorem WM(g:B.Good v n)(h1:1<=n)(h2:n<=9223372036854775807):lZ (gQ.view v).W=some (.view v):=by
 have t:iI 10 (gQ.view v).W=some (7,ah []++ah v):=iG (n:=7) (lim:=10) OM OM [] (ah v);obtain⟨a,q,r⟩:=Ls g h1 h2;have r:=r [];rw[List.append_nil]at r;unfold lZ;exact W99
theorem RZ(hw:w<5)(g:B.Good v n)(h1:1<=n)(h2:n<=9223372036854775807):lZ (gQ.aZ w v).W=some (.aZ w v):=by
 have t:iI 10 (gQ.aZ w v).W=some (8,ah [(w:Int)]++ah v):=iG (n:=8) (lim:=10) OM OM [(w:Int)] (ah v);have t2:iI 5 (ah [(w:Int)]++ah v)=some (w,ah []++ah v):=iG (n:=w) (lim:=5) hw OM [] (ah v);obtain⟨a,q,r⟩:=Ls g h1 h2;have r:=r [];rw[List.append_nil]at r;unfold lZ;simp only[t,t2,Option.bind_some,show ah []=[]from rfl,List.nil_append,r,q,a,Ee]
theorem OP(he:mK e)(hb:yl b):nI (Rec.qH e b).W=some (.qH e b):=by
 have h1:iI 6 (Rec.qH e b).W=some (3,ah [e]++ah b):=iG (n:=3) (lim:=6) OM OM [e] (ah b);have b2:=(JR hb).2 [];rw[List.append_nil]at b2;unfold nI;exact W71
theorem WN(he:mK e)(hb:yl b)(hc:zF c):nI (Rec.take e b c).W=some (.take e b c):=by
 have h1:=iG (n:=4) (lim:=6) OM OM [e] (ah b++ah c);rw[<-List.append_assoc]at h1;have h1:iI 6 (Rec.take e b c).W=some (4,ah [e]++(ah b++ah c)):=h1;have c2:=(XL hc).2 [];rw[List.append_nil]at c2;unfold nI;exact W88
theorem WO(g:B.Good v n)(h1:1<=n)(h2:n<=9223372036854775807):nI (Rec.view v).W=some (.view v):=by
 have t:iI 6 (Rec.view v).W=some (5,ah []++ah v):=iG (n:=5) (lim:=6) OM OM [] (ah v);obtain⟨a,q,r⟩:=Ls g h1 h2;have r:=r [];rw[List.append_nil]at r;unfold nI;exact W99
end
end
section
open B (aI dw eu bK qM eB kF dC gH cB)
def HR(G:Gh)(w:Nat)(r:List Int):Prop:=∀p,p<5->0<gi r (29+p)->∃v∈G.vs,gi v (2+p)=w+1
structure PV (G:Gh) (f:Nat) (v:List Int) (rd:Int) (z:List Int) (p:Bool):Prop where
 view:sub z 0 7=v
 b:yl (sub z 7 2)
 who:gi z 8=f
 r1:1<=gi z 7
 rd:gi z 7<=rd
 c:zF (sub z 9 3)
 ae5:yl (sub z 12 2)
 vo:0<=gi z 14∧gi z 14<32
 tk:0<=gi z 15∧gi z 15<32
 no:p=false->(∀c,¬G.pu (gi v 0) (bn (sub z 7 2)) c)∧bn (sub z 12 2) <bn (sub z 7 2)∧(8<=bn (sub z 12 2)->G.pu (gi v 0) (bn (sub z 12 2)) (sub z 9 3))∧∀a,a<5->bt (gi z 14) a=true->∃h,G.pr (gi v 0) a (bn (sub z 7 2)) h∧(8<=h->h<=bn (sub z 12 2))
 yes:p=true->G.pu (gi v 0) (bn (sub z 7 2)) (sub z 9 3)
 took:∀a,a<5->bt (gi z 15) a=true->G.tk (gi v 0) a (bn (sub z 7 2)) (sub z 9 3)
structure PF (G:Gh) (f:Nat) (v own aT acc:List Int) (rd:Int) (vt:Option (List Int×Bool)) (last:List Int):Prop where
 view:v∈G.vs
 OQ:yl (sub acc 1 2)
 hok:yl (sub acc 3 2)
 Uk:zF (sub acc 5 3)
 hv:bn (sub acc 3 2)<=bn (sub acc 1 2)
 had:8<=bn (sub acc 3 2)->G.tk (gi v 0) f (bn (sub acc 3 2)) (sub acc 5 3)
 tk:∀e n c,G.tk e f n c->e<=gi v 0∧(e=gi v 0->n<=bn (sub acc 3 2))
 pr:∀e n h,G.pr e f n h->e<=gi v 0∧(e=gi v 0->n<=bn (sub acc 1 2))
 pu:∀e n c,G.pu e n c->n%8=f->e<=gi v 0∧(e=gi v 0->n/8<=rd)
 OT:0<=rd∧rd<=9223372036854775807
 aB:∀V,vt=some V->PV G f v rd V.1 V.2
 own:∀p,p<5->0<gi own (29+p)->∃u∈G.vs,gi u 0<=gi v 0∧gi u (2+p)=f+1
 aT:∀w,w<5->HR G w (rowAt aT w)
 last:∀w,w<5->HR G w (rowAt last w)
abbrev PI(G:Gh)(f:Nat)(S:RS):Prop:=PF G f S.view S.own S.aT S.acc S.round S.aB S.last
def DF(G:Gh)(f:Nat)(v acc:List Int)(rd:Int)(vt:Option (List Int×Bool))(bs:List (List UInt8)):Prop:=∀R,dz st0 bs=some R->R.view=v∧R.acc=acc∧R.aB=none∧(0<=R.round∧R.round<=rd)∧R.last=au 870∧(∀V,vt=some V->gi V.1 7<=R.round)∧∀n c,G.pu (gi v 0) n c->n%8=f->n/8<=R.round
abbrev DP(G:Gh)(f:Nat)(S:RS)(bs:List (List UInt8)):Prop:=DF G f S.view S.acc S.round S.aB bs
def zG(G:Gh)(a:Nat):gQ->Prop
 | .row w r=>w=a∧HR G a r
 | .d_ w r=>HR G w r
 | .ask e b=>mK e∧yl b
 | .promise e b h c=>mK e∧yl b∧yl h∧zF c∧G.pr e a (bn b) (bn h)∧(8<=bn h->G.tk e a (bn h) c)
 | .put e b c=>mK e∧yl b∧zF c∧G.pu e (bn b) c
 | .taken e b=>b.length=2->mK e∧yl b∧(8<=bn b->∃c,G.tk e a (bn b) c)
 | .view v=>v∈G.vs∧o8 (gi v 0)
 | .aZ w v=>v∈G.vs∧o8 (gi v 0)
 |_=>True
theorem OU{e}:∀ {b h c},b.length=2->h.length=2->c.length=3->sub (qB e b h c) 1 2=b∧sub (qB e b h c) 3 2=h∧sub (qB e b h c) 5 3=c
 | [_,_],[_,_],[_,_,_],_,_,_=>⟨rfl,rfl,rfl⟩
section
variable {f:Nat}{G H:Gh}
theorem HR.mono{w r}(h:HR G w r)(k:yu f G H):HR H w r:=λp hp h0=>by
 obtain⟨v,a,b⟩:=h p hp h0
 grind[yu.mem]
theorem zG.mono{a M}(h:zG G a M)(k:yu f G H):zG H a M:=by
 cases M with
 |row w r=>exact⟨h.1,h.2.mono k⟩
 |d_ w r=>exact HR.mono h k
 |promise e b h' c=>exact⟨h.1,h.2.1,h.2.2.1,h.2.2.2.1,k.pr _ _ _ _ h.2.2.2.2.1,λq=>k.tk _ _ _ _ (h.2.2.2.2.2 q)⟩
 |put e b c=>exact⟨h.1,h.2.1,h.2.2.1,k.pu _ _ _ h.2.2.2⟩
 |taken e b=>exact λhl=>⟨(h hl).1,(h hl).2.1,λq=>((h hl).2.2 q).imp λ_=>k.tk _ _ _ _⟩
 |view v=>exact⟨k.mem h.1,h.2⟩
 |aZ w v=>exact⟨k.mem h.1,h.2⟩
 |_=>exact h
theorem PV.mono{t v z rd rd' p}(h:PV G t v rd z p)(k:yu f G H)(hr:rd<=rd')(hp:p=false->∀c,¬H.pu (gi v 0) (bn (sub z 7 2)) c):PV H t v rd' z p:=
 ⟨h.view,h.b,h.who,h.r1,Int.le_trans h.rd hr,h.c,h.ae5,h.vo,h.tk,λe=>by
  obtain⟨_,b,c,d⟩:=h.no e
  grind[yu.pu,yu.pr],λe=>k.pu _ _ _ (h.yes e),λa ha q=>k.tk _ _ _ _ (h.took a ha q)⟩
theorem ab3{b}(h:yl b):bn b%8=gi b 1∧bn b/8=gi b 0:=by
 grind[yl,bn]
theorem PV.bn{t v z rd p}(h:PV G t v rd z p):bn (sub z 7 2) %8=t∧bn (sub z 7 2) /8=gi z 7:=by
 grind[ab3,PV.b,gy,PV.who]
theorem PF.other{t}(ht:t≠f){v own aT acc last rd vt}(h:PF G t v own aT acc rd vt last)(k:yu f G H):PF H t v own aT acc rd vt last:=by
 have hp:∀e n c,H.pu e n c->n%8=t->G.pu e n c:=λe n c q hn=>(k.pu' e n c q).resolve_right OM
 exact⟨k.mem h.view,h.OQ,h.hok,h.Uk,h.hv,λq=>k.tk _ _ _ _ (h.had q),λe n c q=>h.tk e n c ((k.tk' _ _ _ _ q).resolve_right ht),λe n c q=>h.pr e n c ((k.pr' _ _ _ _ q).resolve_right ht),λe n c q hn=>h.pu e n c (hp _ _ _ q hn) hn,h.OT,λV e=>(h.aB V e).mono k (Int.le_refl _) λhh c q=>((h.aB V e).no hh).1 c (hp _ _ _ q (h.aB V e).bn.1),λp q z=>by
  grind[PF.own,yu.mem],λw hw=>(h.aT w hw).mono k,λw hw=>(h.last w hw).mono k⟩
theorem DF.other{t}(ht:t≠f){v acc rd vt bs}(h:DF G t v acc rd vt bs)(k:yu f G H):DF H t v acc rd vt bs:=λR hR=>by
 obtain⟨a,b,c,d,e,q,r⟩:=h R hR;exact⟨a,b,c,d,e,q,λn c hn hm=>r n c ((k.pu' _ _ _ hn).resolve_right OM) hm⟩
theorem aiJ(g:GI G){S bs}(h:PI G f S)(hd:DP G f S bs):∃H,yu f G H∧GI H∧PI H f S∧DP H f S bs∧H.pr (gi S.view 0) f (bn (sub S.acc 1 2)) (bn (sub S.acc 3 2)):=by
 refine⟨{G with pr:=λe a n q=>G.pr e a n q∨e=gi S.view 0∧a=f∧n=bn (sub S.acc 1 2)∧q=bn (sub S.acc 3 2)},?_⟩;have k:yu f G {G with pr:=λe a n q=>G.pr e a n q∨e=gi S.view 0∧a=f∧n=bn (sub S.acc 1 2)∧q=bn (sub S.acc 3 2)}:=⟨⟨[],by simp⟩,λ_ _ _ _=> .inl,λ_ _ _=>id,λ_ _ _ _=>id,λe a n q h=>h.imp id λx=>x.2.1,λ_ _ _=> .inl,λ_ _ _ _=> .inl⟩;refine⟨k,⟨g.first,g.step,g.tp,g.one,λe a n q hh m c ht hm=>?_,λe a n q hh=>?_,λe n c hh=>?_⟩,⟨h.view,h.OQ,h.hok,h.Uk,h.hv,h.had,h.tk,λe n q hh=>?_,h.pu,h.OT,λV e=>(h.aB V e).mono k (Int.le_refl _) λq=>((h.aB V e).no q).1,h.own,h.aT,h.last⟩,hd,.inr ⟨rfl,rfl,rfl,rfl⟩⟩
 ·rcases hh with hh| ⟨rfl,rfl,rfl,rfl⟩
  ·exact g.pr _ _ _ _ hh m c ht hm
  ·exact(h.tk _ _ _ ht).2 rfl
 ·rcases hh with hh| ⟨rfl,rfl,rfl,rfl⟩
  ·exact g.le _ _ _ _ hh
  ·exact h.hv
 ·obtain⟨a,b,v,hv,e',M,q,x,y,z,u⟩:=g.pu e n c hh
  exact⟨a,b,v,hv,e',M,q,x,y,z,λa ha hm=>(u a ha hm).imp λ_ x=>⟨.inl x.1,x.2⟩⟩
 ·rcases hh with hh| ⟨rfl,_,rfl,rfl⟩
  ·exact h.pr e n q hh
  omega
theorem PF.num(g:GI G){S}(h:PI G f S)(hM:uS S):mK (gi S.view 0)∧o8 (gi S.view 0)∧B.Good S.view (gi S.view 0)∧1<=gi S.view 0:=by
 obtain⟨k,_,a⟩:=g.at_ h.view;have e:=a.ep;have:=hM.view 0
 grind[mK,o8]
theorem afU(g:GI G){S}(h:PI G f S)(hM:uS S)(hp:G.pr (gi S.view 0) f (bn (sub S.acc 1 2)) (bn (sub S.acc 3 2))){M}(hs:Qw f S M):zG G f M:=by
 obtain⟨n1,n2,_⟩:=h.num g hM;cases M with
 |row w r=>obtain⟨rfl,rfl⟩:=hs;exact⟨rfl,λp hp h0=>(h.own p hp h0).imp λu x=>⟨x.1,x.2.2⟩⟩
 |d_ w r=>obtain⟨h5,_,rfl⟩:=hs;exact h.aT w h5
 |ask e b=>obtain⟨rfl,_,V,hV,rfl⟩:=hs;exact⟨n1,(h.aB V hV).b⟩
 |promise e b q c=>obtain⟨rfl,_,rfl,rfl,rfl⟩:=hs;exact⟨n1,h.OQ,h.hok,h.Uk,hp,h.had⟩
 |put e b c=>obtain⟨rfl,_,V,hV,hy,rfl,rfl⟩:=hs;exact⟨n1,(h.aB V hV).b,(h.aB V hV).c,(h.aB V hV).yes hy⟩
 |taken e b=>
  obtain⟨rfl,hm,c,e⟩:=hs;intro hl;have hc:c.length=3:=by grind[bB.acc,uS.len,qB]
  obtain⟨e1,e2,e3⟩:=OU (e:=gi S.view 0) hl hl hc;have hv:=h.OQ;have hh:=h.had
  grind
 |view v=>obtain rfl:=(show v=S.view from hs);exact⟨h.view,n2⟩
 |aZ w v=>obtain⟨_,rfl⟩:=hs;exact⟨h.view,n2⟩
 |_=>trivial
end
end
section
open B (aI dw eu bK qM eB kF dC gH cB)
theorem or3:∀m:Fin 32,∀k:Fin 5,(0<=bits BinOp.or IntKind.i64 ((m.val:Nat):Int) (2^k.val)∧bits BinOp.or IntKind.i64 ((m.val:Nat):Int) (2^k.val) <32)∧∀a,bt (bits BinOp.or IntKind.i64 ((m.val:Nat):Int) (2^k.val)) a.val=(bt ((m.val:Nat):Int) a.val||a==k):=by decide+kernel
theorem or_bit{z}(h:0<=z∧z<32){k}(hk:k<5):(0<=bits BinOp.or IntKind.i64 z (2^k)∧bits BinOp.or IntKind.i64 z (2^k) <32)∧∀a,a<5->bt (bits BinOp.or IntKind.i64 z (2^k)) a=true->bt z a=true∨a=k:=by
 obtain⟨m,rfl⟩:∃m:Nat,z=m:=⟨z.toNat,by omega⟩;obtain⟨a,b⟩:=or3 ⟨m,by omega⟩ ⟨k,hk⟩;refine⟨a,λi hi h=>?_⟩;have:=b ⟨i,hi⟩
 grind
theorem R3{D bs bs' c u c' u'}(h:tO D bs c u)(h':tO D bs' c' u'):bs=bs':=by
 have t:∀ {bs:List (List UInt8)} {c u:Nat},tO D bs c u->kL D.sure 2049 0 0=(bs,c,u):=λh=>TH h.ld h.le (h.st.elim (λq=>vI q.2.2) λq=>vI q.2.1)
 grind
theorem Ul{e:Int}:∀ {z b},z.length=8->b.length=2->sub (dK z 1 b) 1 2=b∧sub (dK z 1 b) 3 2=sub z 3 2∧sub (dK z 1 b) 5 3=sub z 5 3
 | [_,_,_,_,_,_,_,_],[_,_],_,_=>⟨rfl,rfl,rfl⟩
theorem ab4:∀ {z b c},z.length=8->b.length=2->c.length=3->dK (dK (dK z 1 b) 3 b) 5 c=qB (gi z 0) b b c
 | [_,_,_,_,_,_,_,_],[_,_],[_,_,_],_,_,_=>rfl
theorem aiK:∀ {v b c},v.length=7->b.length=2->c.length=3->sub (kF v b c) 0 7=v∧sub (kF v b c) 7 2=b∧sub (kF v b c) 9 3=c∧sub (kF v b c) 12 2=[0,0]∧gi (kF v b c) 7=gi b 0∧gi (kF v b c) 8=gi b 1∧gi (kF v b c) 14=0∧gi (kF v b c) 15=0
 | [_,_,_,_,_,_,_],[_,_],[_,_,_],_,_,_=>⟨rfl,rfl,rfl,rfl,rfl,rfl,rfl,rfl⟩
theorem ae6{v c}(hc:c.length=3)(h:(bK v c).2=0):zF c:=by
 grind[B.bK,B.P7,zF,B.P8]
theorem R4{S b}(hl:S.acc.length=8)(h:qJ S b)(hb:yl b)(hv:yl (sub S.acc 1 2)):1<=gi b 0∧bn (sub S.acc 1 2)<=bn b:=by
 unfold qJ cB at h;have e:=Uj hb hv
 grind[gy]
section
variable {f:Nat}{G H:Gh}{v z b h c:List Int}{rd:Int}{a:Nat}
theorem R5(hz:z.length=16){i}(hi:i<16)(k):gi (dC z i k) i=bits BinOp.or IntKind.i64 (gi z i) (2^k)∧(∀j,j≠i->gi (dC z i k) j=gi z j)∧∀o n,i<o∨o+n<=i->sub (dC z i k) o n=sub z o n:=by
 grind[B.dC,B.uC,B.uD,C.fF]
theorem ae7(hz:z.length=16)(hh:h.length=2)(hc:c.length=3):sub (gH z a h c) 0 7=sub z 0 7∧sub (gH z a h c) 7 2=sub z 7 2∧sub (gH z a h c) 9 3=c∧sub (gH z a h c) 12 2=h∧gi (gH z a h c) 14=bits BinOp.or IntKind.i64 (gi z 14) (2^a)∧gi (gH z a h c) 15=gi z 15∧gi (gH z a h c) 7=gi z 7∧gi (gH z a h c) 8=gi z 8:=by
 obtain⟨e1,e2,e3⟩:=R5 hz (i:=14) OM a;have hl:(dC z 14 a).length=16:=by grind[B.dC]
 have hl2:(dK (dC z 14 a) 12 h).length=16:=by grind[aY]
 have s1:=C.l9 (dK (dC z 14 a) 12 h) c 9 OM;have s2:=C.l9 (dC z 14 a) h 12 OM
 simp_all[B.gH,C.jQ,C.Ki]
theorem aiL(g:GI G)(hz:z.length=16)(hv:v∈G.vs)(p:PV G f v rd z false)(ha:a<5)(hm:zG G a (.promise (gi v 0) (sub z 7 2) h c)){z'}(hz':z'=if 0<gi h 0∧B.kM (gi (sub (dC z 14 a) 12 2) 0) (gi (sub (dC z 14 a) 12 2) 1) (gi h 0) (gi h 1)=true then gH z a h c else dC z 14 a){y}(hy:y=eB (gi z' 14) (gi (sub z' 0 7) 1)):
  gi z' 7=gi z 7∧∃H,yu f G H∧GI H∧PV H f v rd z' y∧H.tk=G.tk∧H.pr=G.pr∧∀e n c,H.pu e n c->G.pu e n c∨e=gi v 0∧n/8=gi z 7:=by
 obtain⟨_,_,hh,hc,hpr,htk⟩:=hm;obtain⟨n1,n2,n3,n4⟩:=p.no rfl;obtain⟨e1,e2,e3⟩:=R5 hz (i:=14) OM a;obtain⟨t1,t2,t3,t4,t5,t6,t7,t8⟩:=ae7 (a:=a) hz hh.1 hc.1;obtain⟨o1,o2⟩:=or_bit p.vo ha;have hb8:8<=bn (sub z 7 2):=by
  have:=p.bn.2;have:=p.r1;omega
 rw[e3 12 2 OM,Uj p.ae5 hh]at hz';have hlt:8<=bn h->bn h<bn (sub z 7 2):=λq=>by
  have:=g.le _ _ _ _ hpr;rcases Int.lt_or_eq_of_le this with x|x
  ·exact x
  ·exact absurd (g.tp _ _ _ _ (htk q)) (by grind)
 have P:sub z' 0 7=v∧sub z' 7 2=sub z 7 2∧gi z' 7=gi z 7∧gi z' 8=gi z 8∧gi z' 14=bits BinOp.or IntKind.i64 (gi z 14) (2^a)∧gi z' 15=gi z 15∧zF (sub z' 9 3)∧yl (sub z' 12 2)∧bn (sub z' 12 2) <bn (sub z 7 2)∧(8<=bn (sub z' 12 2)->G.pu (gi v 0) (bn (sub z' 12 2)) (sub z' 9 3))∧(8<=bn h->bn h<=bn (sub z' 12 2))∧bn (sub z 12 2)<=bn (sub z' 12 2):=by
  by_cases q:0<gi h 0∧decide (bn (sub z 12 2) <bn h)=true
  ·rw[if_pos q]at hz'
   subst hz';rw[t1,t2,t3,t4,t5,t6,t7,t8];have q2:=of_decide_eq_true q.2;have h8:8<=bn h:=by have:=hh.2.2.2.1;grind[bn]
   exact⟨p.view,rfl,rfl,rfl,rfl,rfl,hc,hh,hlt h8,λ_=>g.tp _ _ _ _ (htk h8),λ_=>Int.le_refl _,by omega⟩
  ·rw[if_neg q]at hz'
   subst hz';rw[e3 _ _ OM,e3 _ _ OM,e3 _ _ OM,e3 _ _ OM,e2 7 OM,e2 8 OM,e1,e2 15 OM];refine⟨p.view,rfl,rfl,rfl,rfl,rfl,p.c,p.ae5,n2,n3,λh8=>?_,Int.le_refl _⟩;have:0<gi h 0:=by have:=hh.2.2.2.2;grind[bn]
   grind
 obtain⟨p1,p2,p3,p4,p5,p6,p7,p8,p9,p10,p11,p12⟩:=P;refine⟨p3,?_⟩;have nt:∀k c',¬G.tk (gi v 0) k (bn (sub z 7 2)) c':=λk c' t=>n1 c' (g.tp _ _ _ _ t)
 have vw:∀k,k<5->bt (gi z' 14) k=true->∃h',G.pr (gi v 0) k (bn (sub z 7 2)) h'∧(8<=h'->h'<=bn (sub z' 12 2)):=λk hk q=>by
  grind
 cases y with
 |false=>
  refine⟨G,yu.refl _ _,g,⟨p1,by grind,by grind[PV.who],by rw[p3];exact p.r1,by rw[p3];exact p.rd,p7,p8,by omega,by rw[p6];exact p.tk,λ_=>?_,λq=>(by cases q),λk hk q=>?_⟩,rfl,rfl,λ_ _ _ q=> .inl q⟩
  ·grind
  ·rw[p6]at q;exact absurd (p.took k hk q) (nt _ _)
 |true=>
  rw[p1]at hy;have k:yu f G {G with pu:=λe n d=>G.pu e n d∨e=gi v 0∧n=bn (sub z 7 2)∧d=sub z' 9 3}:=⟨⟨[],by simp⟩,λ_ _ _ _=>id,λ_ _ _=> .inl,λ_ _ _ _=>id,λ_ _ _ _=> .inl,λe n c q=>q.imp id λx=>by grind[PV.bn],λ_ _ _ _=> .inl⟩;refine⟨{G with pu:=λe n d=>G.pu e n d∨e=gi v 0∧n=bn (sub z 7 2)∧d=sub z' 9 3},k,⟨g.first,g.step,λe k n c q=> .inl (g.tp e k n c q),λe n c d q r=>?_,g.pr,g.le,λe n c q=>?_⟩,⟨p1,by grind,by grind[PV.who],by rw[p3];exact p.r1,by rw[p3];exact p.rd,p7,p8,by omega,by rw[p6];exact p.tk,λq=>(by cases q),λ_=> .inr ⟨rfl,by rw[p2],rfl⟩,λk hk q=>?_⟩,rfl,rfl,λe n c q=>q.imp id λx=>⟨x.1,by rw[x.2.1];exact p.bn.2⟩⟩
  ·grind[GI.one]
  ·rcases q with q| ⟨rfl,rfl,rfl⟩
   ·obtain⟨x1,x2,u,x3,x4,M,b',x5,x6,x7,x8⟩:=g.pu e n c q
    exact⟨x1,x2,u,x3,x4,M,b',x5,x6,λw=> .inl (x7 w),x8⟩
   ·exact⟨hb8,p7,v,hv,rfl,gi z' 14,bn (sub z' 12 2),hy.symm,p9,λw=> .inl (p10 w),vw⟩
  ·rw[p6]at q;exact absurd (p.took k hk q) (nt _ _)
theorem ae8(g:GI G)(hz:z.length=16)(p:PV G f v rd z true)(ha:a<5)(hm:zG G a (.taken (gi v 0) (sub z 7 2))):PV G f v rd (dC z 15 a) true∧gi (dC z 15 a) 7=gi z 7:=by
 obtain⟨e1,e2,e3⟩:=R5 hz (i:=15) OM a;obtain⟨o1,o2⟩:=or_bit p.tk ha;have y:=p.yes rfl;have hb8:8<=bn (sub z 7 2):=by have:=p.bn.2;have:=p.r1;omega
 obtain⟨_,_,q⟩:=hm p.b.1;obtain⟨c',q⟩:=q hb8;obtain rfl:=g.one _ _ _ _ (g.tp _ _ _ _ q) y;refine⟨⟨by grind[PV.view],by grind,by grind[PV.who],by rw[e2 _ OM];exact p.r1,by rw[e2 _ OM];exact p.rd,by grind[PV.c],by grind[PV.ae5],by rw[e2 _ OM];exact p.vo,by omega,λx=>(by cases x),λ_=>?_,λk hk x=>?_⟩,e2 _ OM⟩
 all_goals grind[PV.took]
theorem ab5(g:GI G){u}(hv:v∈G.vs)(hn:qM v c=(u,0))(hc:Lr G v c):∃H,yu f G H∧GI H∧u∈H.vs∧H.pu=G.pu∧H.tk=G.tk∧H.pr=G.pr:=by
 obtain⟨j,hj,_⟩:=g.at_ hv;cases e:G.vs[j+1]? with
 |some w=>
  grind[GI.step,GI.agree,yu.refl]
 |none=>
  have hl:G.vs.length=j+1:=by
   grind
  refine⟨{G with vs:=G.vs++[u]},⟨⟨[u],rfl⟩,λ_ _ _ _=>id,λ_ _ _=>id,λ_ _ _ _=>id,λ_ _ _ _=> .inl,λ_ _ _=> .inl,λ_ _ _ _=> .inl⟩,⟨?_,λk v' w hk hw=>?_,g.tp,g.one,g.pr,g.le,λe n c q=>?_⟩,List.mem_append_right _ SI,rfl,rfl,rfl⟩
  ·grind[GI.first]
  ·have hkl:=(List.getElem?_eq_some_iff.1 hw).1
   rw[List.length_append,List.length_singleton]at hkl;rw[List.getElem?_append_left OM]at hk;by_cases hh:k+1<G.vs.length
   ·rw[List.getElem?_append_left hh]at hw;exact g.step k v' w hk hw
   ·obtain rfl:k=j:=by omega
    rw[List.getElem?_append_right OM,hl,Nat.sub_self]at hw;cases hw;rw[hj]at hk;cases hk;exact⟨c,hn,hc⟩
  ·obtain⟨x1,x2,w,x3,x4⟩:=g.pu e n c q
   exact⟨x1,x2,w,List.mem_append_left _ x3,x4⟩
end
theorem R6{V a b}(h:(iy V a b).2=true):eB (gi (iy V a b).1.1 15) (gi (sub (iy V a b).1.1 0 7) 1)=true:=by
 unfold iy at h|-
 grind
end
section
open B (aI dw eu bK qM eB kF dC gH cB)
def NP(G:Gh)(B:Nat->List (List UInt8)):Prop:=∀f t,f<5->t<5->∀b∈B (f*5+t),∀c,A.dJ (UInt8.ofNat f) (UInt8.ofNat t) b=some c->∀M,lZ c=some M->zG G f M
theorem NP.mono{f:Nat}{G H:Gh}{B:Nat->List (List UInt8)}(h:NP G B)(k:yu f G H):NP H B:=λf t hf ht b hb c hc M hM=>(h f t hf ht b hb c hc M hM).mono k
theorem ae9{G:Gh}(g:GI G){a:Nat}{M M':gQ}(h:lZ M.W=some M')(hp:zG G a M)(hl:M.Len)(h0:∀w r,M=.row w r->mX r)(h9:∀w r,M=.d_ w r->mX r):zG G a M':=by
 have hk:=Jl h;have hg:∀ {v:List Int},v∈G.vs->o8 (gi v 0)->B.Good v (gi v 0)∧1<=gi v 0∧gi v 0<=9223372036854775807:=λhv hi=>by
  obtain⟨k,_,x⟩:=g.at_ hv;have e:=x.ep;unfold o8 at hi;exact⟨by rw[e];exact x,by omega,by omega⟩
 cases M with
 |row w r=>rw[Oz hl.1 (h0 w r rfl)]at h;cases h;exact hp
 |d_ w r=>rw[Cx hl.1 (h9 w r rfl)]at h;cases h;exact hp
 |ask e b=>rw[ab1 hp.1 hp.2]at h;cases h;exact hp
 |promise e b q c=>rw[Lt hp.1 hp.2.1 hp.2.2.1 hp.2.2.2.1]at h;cases h;exact hp
 |put e b c=>rw[ab2 hp.1 hp.2.1 hp.2.2.1]at h;cases h;exact hp
 |taken e b=>rw[RV (hp hl).1 (hp hl).2.1]at h;cases h;exact hp
 |view v=>obtain⟨x,y,z⟩:=hg hp.1 hp.2;rw[WM x y z]at h;cases h;exact hp
 |aZ w v=>obtain⟨x,y,z⟩:=hg hp.1 hp.2;rw[RZ hl.1 x y z]at h;cases h;exact hp
 |kept n=>cases M'<;>first|trivial|simp[gQ.tag]at hk
 |news w r=>cases M'<;>first|trivial|simp[gQ.tag]at hk
theorem Bb{G H:Gh}{f:Nat}{v acc v' acc':List Int}{rd rd':Int}{vt vt':Option (List Int×Bool)}{bs:List (List UInt8)}{x:Rec}(h:DF G f v acc rd vt bs)(hx:∀y R,nI x.W=some y->(R.view=v∧R.acc=acc∧R.aB=none∧(0<=R.round∧R.round<=rd)∧R.last=au 870∧(∀V,vt=some V->gi V.1 7<=R.round)∧∀n c,G.pu (gi v 0) n c->n%8=f->n/8<=R.round)->(dD R y).view=v'∧(dD R y).acc=acc'∧(dD R y).aB=none∧(0<=(dD R y).round∧(dD R y).round<=rd')∧(dD R y).last=au 870∧(∀V,vt'=some V->gi V.1 7<=(dD R y).round)∧∀n c,H.pu (gi v' 0) n c->n%8=f->n/8<=(dD R y).round):DF H f v' acc' rd' vt' (bs++[x.W]):=λR' hR'=>by
 rw[BH]at hR';obtain⟨R,h1,h2⟩:=Option.bind_eq_some_iff.1 hR';obtain⟨y,h3,rfl⟩:=Option.map_eq_some_iff.1 h2;exact hx y R h3 (h R h1)
theorem R7{G:Gh}{f:Nat}{v acc:List Int}{rd:Int}{vt:Option (List Int×Bool)}{bs:List (List UInt8)}{x:Rec}(h:DF G f v acc rd vt bs)(hx:x.tag<=2):DF G f v acc rd vt (bs++[x.W]):=Bb h λy R hy hR=>by
 have hk:=I_ hy;cases y with
 |row r=>exact hR
 |cz w r=>exact hR
 |aZ w=>exact hR
 |qH e b=>exact absurd (show 3=x.tag from hk) OM
 |take e b c=>exact absurd (show 4=x.tag from hk) OM
 |view v=>exact absurd (show 5=x.tag from hk) OM
section
variable {V:Nat->Int}{f:Nat}{In:Nat->gQ->Prop}{n k:Nat}{S S1:RS}{bs:List (List UInt8)}{G:Gh}
theorem aiM(g:GI G)(i:PI G f S)(hM:uS S)(m:MG V f S bs){x:List Int}(hg:Grow f S x):∀p,p<5->0<gi x (29+p)->∃u∈G.vs,gi u 0<=gi S.view 0∧gi u (2+p)=f+1:=by
 have hv:=m.v;cases hg with
 |more key xU n h1 h2 h3 h3' h4 e h5 h6=>
  have h0:=m.own.2.2.2 0;rw[NS h0 (by have:=hv.2;omega)]at e;have hol:=hM.len.own;intro p hp q;rw[e]at q;unfold C.iw at q;rw[QV (by simp;omega),if_neg OM,QV OM,if_neg OM]at q;exact i.own p hp q
 |come h1 h2 h3 e=>
  obtain⟨_,_,_,_,q⟩:=AL hM.len.last m.last (λi hi=>VT hi) hM.len.own m.own.2.1 (by have:=TJ f S;have:=hv.2;omega) e;refine q (λx=>∀p,p<5->0<gi x (29+p)->∃u∈G.vs,gi u 0<=gi S.view 0∧gi u (2+p)=f+1) (λj hj z hz hQ p hp h0=>?_) i.own;have GV:=VT hj;have hh:dw S.view (j:Int)=((f:Int),true):=by
   have:=(List.mem_filter.1 hj).2;simp only[Bool.and_eq_true,decide_eq_true_eq]at this;exact this.1
  have hd:=m.last j GV;have hmj:C.aL (j:Int)=true:=by simp[C.aL];omega
  have hs:gi S.view (2+j)=f+1:=by
   unfold dw at hh
   split at hh
   ·have:=(Prod.mk.inj hh).1
    rw[Int.toNat_natCast]at this;omega
   ·cases hh
  rw[(C.S_ (x:=z) (dead:=rowAt S.last j) (who:=(j:Int)) (hx:=hz) (hd:=hd.1.1) (h1:=hmj) p hp).1]at h0;by_cases e1:(p:Int)=j
  ·obtain rfl:p=j:=by omega
   exact⟨S.view,i.view,Int.le_refl _,hs⟩
  ·rw[if_neg e1]at h0
   split at h0
   ·rename_i q
    obtain⟨u,hu,e2⟩:=i.last j GV p hp q.1;obtain⟨k1,_,g1⟩:=g.at_ hu;obtain⟨k2,_,g2⟩:=g.at_ i.view;have uj:gi u (2+j)=0:=by
     apply Classical.byContradiction;intro hne;have a:=(g1.CW p hp OM).1;rw[e2,show(j:Int)+1-1=j by omega,(g1.CW j GV hne).2]at a;cases a
    rcases Int.le_total (gi u 0) (gi S.view 0)with hle|hle
    ·rcases(g.later hu i.view hle hp GV).1 (.inl e2)with x|x
     ·have a:=(g2.CW p hp OM).1
      rw[x,show(j:Int)+1-1=j by omega,(g2.CW j GV OM).2]at a;cases a
     ·exact⟨S.view,i.view,Int.le_refl _,x.2.trans hs⟩
    ·exact absurd uj ((g.later i.view hu hle GV GV).2 OM)
   ·exact hQ p hp h0
theorem amb(hf:f<5)(hin:∀a M,In a M->M.Ok∧uK V a M∧zG G a M)(hm:Mv f In n S S1)(hM:uS S)(g:GI G)(m:MG V f S bs)(i:PI G f S)(d:DP G f S bs)(hN:NP G S.B):∃bs' H,yu f G H∧GI H∧MG V f S1 bs'∧PI H f S1∧DP H f S1 bs'∧NP H S1.B:=by
 obtain⟨bs',m',_⟩:=aaE (λa M q=>⟨(hin a M q).1,(hin a M q).2.1⟩) hm hM m;obtain⟨H,k,g,i,d,hp⟩:=aiJ g i d;replace hN:=hN.mono k;have hr:∀ {a M},Hr f In S a M->zG H a M:=λq=>q.elim (λq=>(hin _ _ q).2.2.mono k) λq=>q.1▸afU g i hM hp q.2
 have e0:tO S.D bs' S.cnt S.used->bs'=bs:=λq=>R3 q m.log
 have e1:∀ {x},(cK S x).2=0->tO (cK S x).1.D bs' (cK S x).1.cnt (cK S x).1.used->bs'=bs++[x.W]:=λq r=>R3 r ((qc m _).1 q).1
 have e2:∀ {x},(cK S x).2≠0->tO (cK S x).1.D bs' (cK S x).1.cnt (cK S x).1.used->bs'=bs:=λq r=>R3 r ((qc m _).2 q).1
 have ml:=m'.log;obtain⟨n1,n2,n3,n4⟩:=i.num g hM;have h8:=hM.len.acc;have akG:∀ {b:List Int},Rs f In S (.qH (gi S.view 0) b)->yl b∧qJ S b:=λhR=>by
  cases hR with
  |qH b hb hm hn hs=>
   refine⟨?_,hn⟩;rcases hs with⟨_,a,hh⟩ |hs
   ·exact(hr hh).2
   ·subst hs
    have hn:=hn;unfold qJ cB at hn;simp only[Bool.or_eq_false_iff,decide_eq_false_iff_not]at hn;have h1:=hn.1.2;have h2:=lN (S.round+1);unfold o8 at h2;have h3:gi [wrap64 (S.round+1),(f:Int)] 0=wrap64 (S.round+1):=rfl;have h4:gi [wrap64 (S.round+1),(f:Int)] 1=(f:Int):=rfl;refine⟨rfl,?_⟩;rw[h3,h4];rw[h3]at h1;omega
 cases hm with
 | @out _ t M ht hs hl=>
  obtain⟨B,e⟩:=qo (f:=f) S t M;rw[e]at ml;have hN':NP H (dS f S t M).B:=by
   unfold dS
   split
   ·exact hN
   ·intro f' t' hf' ht' b hb c hc M' hM'
    by_cases e:f'*5+t'=f*5+t
    ·obtain rfl:f'=f:=by omega
     obtain rfl:t'=t:=by omega
     replace hb:b∈wK (S.B (f'*5+t')) (A.jY (UInt8.ofNat f') (UInt8.ofNat t') M.W):=by
      have h1:gV S.B (f'*5+t') (wK (S.B (f'*5+t')) (A.jY (UInt8.ofNat f') (UInt8.ofNat t') M.W)) (f'*5+t')=_:=bE _ _ _;rw[<-h1];exact hb
     have hor:b∈S.B (f'*5+t')∨b=A.jY (UInt8.ofNat f') (UInt8.ofNat t') M.W:=by
      unfold wK at hb
      split at hb
      ·simpa using hb
      ·exact .inl hb
     rcases hor with hb|rfl
     ·exact hN _ _ hf' ht' b hb c hc M' hM'
     ·rw[A.Ez]at hc
      cases hc;refine ae9 g hM' (afU g i hM hp hs) hl (λw r e=>?_) (λw r e=>?_)
      ·subst e;obtain⟨rfl,rfl⟩:=hs;exact m.v.1
      ·subst e;obtain⟨h5,_,rfl⟩:=hs;exact(m.aT w h5).1.1
    ·refine hN _ _ hf' ht' b ?_ c hc M' hM'
     have h1:gV S.B (f*5+t) (wK (S.B (f*5+t)) (A.jY (UInt8.ofNat f) (UInt8.ofNat t) M.W)) (f'*5+t')=S.B (f'*5+t'):=bI _ _ e;rw[<-h1];exact hb
  rw[e]at m' hN'|-;exact⟨bs',H,k,g,m',i,e0 ml▸d,hN'⟩
 |fail _ hc=>exact⟨bs',H,k,g,m',i,e2 hc ml▸d,hN⟩
 |row _ _ hg hx hc=>exact⟨bs',H,k,g,m',⟨i.view,i.OQ,i.hok,i.Uk,i.hv,i.had,i.tk,i.pr,i.pu,i.OT,i.aB,aiM g i hM m hg,i.aT,i.last⟩,e1 hc ml▸R7 d (by simp[Rec.tag]),hN⟩
 | @cz _ aa r hrl hR hc=>
  cases hR with
  |cz _ _ h5 hh hk=>
   refine⟨bs',H,k,g,m',⟨i.view,i.OQ,i.hok,i.Uk,i.hv,i.had,i.tk,i.pr,i.pu,i.OT,i.aB,i.own,λw hw=>?_,i.last⟩,e1 hc ml▸R7 d (by simp[Rec.tag]),hN⟩;show HR H w (rowAt (C.gM S.aT S.sl (aa:Int) r) w);rw[show C.gM S.aT S.sl (aa:Int) r=dK S.aT (aa*174) r by unfold C.gM;rw[if_pos hk,Int.toNat_natCast],q_ hM.len.aT hrl h5 hw]
   split
   ·subst w;exact(hr hh).2
   ·exact i.aT w hw
 |aZ hR hc=>exact⟨bs',H,k,g,m',i,e1 hc ml▸R7 d (by simp[Rec.tag]),hN⟩
 | @qH _ b hb hR hr0 hc=>
  obtain⟨hB,hnr⟩:=akG hR;obtain⟨q1,q2⟩:=R4 h8 hnr hB i.OQ;obtain⟨a1,a2,a3⟩:=Ul (e:=0) h8 hb;refine⟨bs',H,k,g,m',⟨i.view,a1.symm▸hB,a2.symm▸i.hok,a3.symm▸i.Uk,by rw[a1,a2];exact Int.le_trans i.hv q2,by rw[a2,a3];exact i.had,by rw[a2];exact i.tk,λe n h q=>⟨(i.pr e n h q).1,λx=>by rw[a1];exact Int.le_trans ((i.pr e n h q).2 x) q2⟩,i.pu,i.OT,i.aB,i.own,i.aT,i.last⟩,?_,hN⟩;rw[e1 hc ml];refine Bb d λy R hy hR=>?_
  rw[OP n1 hB]at hy;cases hy;obtain⟨r1,r2,r3,r4,r5,r6,r7⟩:=hR;refine⟨r1,by show dK R.acc 1 b=_;rw[r2],r3,?_,r5,λV hV=>?_,λn c hn hm=>?_⟩
  ·show 0<=max R.round (gi b 0)∧max R.round (gi b 0)<=S.round;omega
  ·have:=r6 V hV;show _<=max R.round (gi b 0);omega
  ·have:=r7 n c hn hm;show _<=max R.round (gi b 0);omega
 | @BB _ b c hbe hc3 hnx hR hc=>
  obtain⟨hB,hnr⟩:=akG hR;obtain⟨q1,q2⟩:=R4 h8 hnr hB i.OQ;obtain⟨a1,a2,a3⟩:=Ul (e:=0) h8 hB.1;have gw:wrap64 (S.round+1)=S.round+1:=by
   have:=i.OT;have q1:=q1;rw[hbe]at q1;replace q1:1<=wrap64 (S.round+1):=q1;unfold wrap64 at q1|-;omega
  have g0:gi b 0=S.round+1:=by rw[hbe];exact gw
  have g1:gi b 1=f:=by rw[hbe];rfl
  have hch:=ae6 hc3 hnx;obtain⟨z1,z2,z3,z4,z5,z6,z7,z8⟩:=aiK hM.len.view hB.1 hc3;have hbn:=ab3 hB;have hrd:=i.OT;have hb2:=hB;unfold yl at hb2;have bt0:∀a:Nat,bt 0 a=false:=λa=>by unfold bt;simp
  refine⟨bs',H,k,g,m',⟨i.view,a1.symm▸hB,a2.symm▸i.hok,a3.symm▸i.Uk,by rw[a1,a2];exact Int.le_trans i.hv q2,by rw[a2,a3];exact i.had,by rw[a2];exact i.tk,λe n h q=>⟨(i.pr e n h q).1,λx=>by rw[a1];exact Int.le_trans ((i.pr e n h q).2 x) q2⟩,λe n c q x=>⟨(i.pu e n c q x).1,λy=>by have:=(i.pu e n c q x).2 y;show _<=wrap64 (S.round+1);omega⟩,by show 0<=wrap64 (S.round+1)∧wrap64 (S.round+1)<=_;omega,λV hV=>?_,i.own,i.aT,i.last⟩,?_,hN⟩
  ·cases hV
   refine⟨z1,by rw[z2];exact hB,by rw[z6,g1],by rw[z5];exact q1,by rw[z5,g0,gw];exact Int.le_refl _,by rw[z3];exact hch,by rw[z4];unfold yl;decide,by rw[z7];decide,by rw[z8];decide,λ_=>?_,λq=>(by cases q),λa ha q=>?_⟩
   ·rw[z2,z3,z4,z7]
    refine⟨λc q=>?_,by show(0:Int) <_;unfold bn;omega,λq=>absurd q DC,λa ha q=>?_⟩
    ·have:=(i.pu _ _ _ q (by rw[hbn.1,g1])).2 rfl;omega
    ·rw[bt0]at q;cases q
   ·rw[z8,bt0]at q;cases q
  ·rw[e1 hc ml]
   refine Bb d λy R hy hR=>?_
   rw[OP n1 hB]at hy;cases hy;obtain⟨r1,r2,r3,r4,r5,r6,r7⟩:=hR;refine⟨r1,by show dK R.acc 1 b=_;rw[r2],r3,?_,r5,λV hV=>?_,λn c hn hm=>?_⟩
   ·show 0<=max R.round (gi b 0)∧max R.round (gi b 0)<=wrap64 (S.round+1);omega
   ·cases hV;show gi (kF S.view b c) 7<=max R.round (gi b 0);omega
   ·have:=r7 n c hn hm;show _<=max R.round (gi b 0);omega
 | @take _ b c hb hc3 hR hc=>
  cases hR with
  |take a _ _ _ _ hh hmem hr0 hnx hnr=>
   obtain⟨_,hB,hC,hpu⟩:=hr hh;obtain⟨q1,q2⟩:=R4 h8 hnr hB i.OQ;obtain⟨a1,a2,a3⟩:=OU (e:=gi S.acc 0) hb hb hc3;have kk:yu f H {H with tk:=λe a n d=>H.tk e a n d∨e=gi S.view 0∧a=f∧n=bn b∧d=c}:=⟨⟨[],by simp⟩,λ_ _ _ _=>id,λ_ _ _=>id,λ_ _ _ _=> .inl,λ_ _ _ _=> .inl,λ_ _ _=> .inl,λ_ _ _ _ q=>q.imp id λx=>x.2.1⟩;refine⟨bs',_,k.trans kk,⟨g.first,λj v w hv hw=>?_,λe a n d q=>?_,g.one,λe a n h q m d t hm=>?_,g.le,g.pu⟩,m',⟨i.view,a1.symm▸hB,a2.symm▸hB,a3.symm▸hC,by rw[a1,a2];exact Int.le_refl _,λ_=> .inr ⟨rfl,rfl,by rw[a2],a3⟩,λe n d q=>?_,λe n h q=>⟨(i.pr e n h q).1,λx=>by rw[a1];exact Int.le_trans ((i.pr e n h q).2 x) q2⟩,i.pu,i.OT,λV hV=>(i.aB V hV).mono kk (Int.le_refl _) λq=>((i.aB V hV).no q).1,i.own,i.aT,i.last⟩,?_,hN.mono kk⟩
   ·obtain⟨c',x,n',M,y,z⟩:=g.step j v w hv hw
    exact⟨c',x,n',M,y,λa ha q=> .inl (z a ha q)⟩
   ·rcases q with q| ⟨rfl,_,rfl,rfl⟩
    ·exact g.tp _ _ _ _ q
    ·exact hpu
   ·rcases t with t| ⟨rfl,rfl,rfl,rfl⟩
    ·exact g.pr _ _ _ _ q m d t hm
    ·have:=(i.pr _ _ _ q).2 rfl;omega
   ·rw[a2]
    rcases q with q| ⟨rfl,_,rfl,rfl⟩
    ·exact⟨(i.tk e n d q).1,λx=>Int.le_trans ((i.tk e n d q).2 x) (Int.le_trans i.hv q2)⟩
    ·exact⟨Int.le_refl _,λ_=>Int.le_refl _⟩
   ·rw[e1 hc ml]
    refine Bb d λy R hy hR=>?_
    rw[WN n1 hB hC]at hy;cases hy;obtain⟨r1,r2,r3,r4,r5,r6,r7⟩:=hR;refine⟨r1,by show dK (dK (dK R.acc 1 b) 3 b) 5 c=_;rw[r2,ab4 h8 hb hc3],r3,?_,r5,λV hV=>?_,λn c hn hm=>?_⟩
    ·show 0<=max R.round (gi b 0)∧max R.round (gi b 0)<=S.round;omega
    ·have:=r6 V hV;show _<=max R.round (gi b 0);omega
    ·have:=r7 n c hn hm;show _<=max R.round (gi b 0);omega
 | @view _ v h7 hR hc=>
  have hv:∃K,yu f H K∧GI K∧v∈K.vs∧K.pu=H.pu∧K.tk=H.tk∧K.pr=H.pr:=by
   cases hR with
   |view _ _ hlt hs=>
    cases hs with
    |told a hh=>exact⟨H,.refl _ _,g,(hr hh).1,rfl,rfl,rfl⟩
    |aZ a w hh=>exact⟨H,.refl _ _,g,(hr hh).1,rfl,rfl,rfl⟩
    |chosen V a b ha hV ht hmem h0 e=>
     have p:=i.aB _ hV;have mo:=R6 ht;rw[p.view]at mo;exact ab5 g i.view (e▸ae4 hM.len.view n2 h0 (e▸hlt)) ⟨_,_,mo,p.took⟩
  have hlt:gi S.view 0<gi v 0:=by cases hR with|view _ _ hlt _=>exact hlt
  obtain⟨K,kk,gk,hv,t1,t2,t3⟩:=hv;have nb:∀ {x:Int},¬(x<=gi S.view 0∧x=gi v 0):=by omega
  have a1:sub (oM (cK S (.view v)).1 v).acc 1 2=au 2:=rfl;have a2:sub (oM (cK S (.view v)).1 v).acc 3 2=au 2:=rfl;have a3:sub (oM (cK S (.view v)).1 v).acc 5 3=au 3:=rfl;have hI:o8 (gi v 0):=by
   have:=(FY (λa M q=>(hin a M q).1) (.view h7 hR hc) hM).view 0;exact this
  obtain⟨k1,_,gd⟩:=gk.at_ hv;have hep:=gd.ep;refine⟨bs',K,k.trans kk,gk,m',⟨hv,by rw[a1];unfold yl;decide,by rw[a2];unfold yl;decide,by rw[a3];unfold zF;decide,by rw[a1,a2];exact Int.le_refl _,λq=>?_,λe n c q=>?_,λe n c q=>?_,λe n c q x=>?_,⟨Int.le_refl 0,by show(0:Int)<=_;decide⟩,λV hV=>(by cases hV),λp hp q=>?_,λw hw=>(i.aT w hw).mono kk,λw hw=>(i.last w hw).mono kk⟩,?_,hN.mono kk⟩
  ·rw[a2]at q;exact absurd q DC
  ·rw[t2]at q;have:=(i.tk e n c q).1;exact⟨by show e<=gi v 0;omega,λx=>absurd x (by show ¬e=gi v 0;omega)⟩
  ·rw[t3]at q;have:=(i.pr e n c q).1;exact⟨by show e<=gi v 0;omega,λx=>absurd x (by show ¬e=gi v 0;omega)⟩
  ·rw[t1]at q;have:=(i.pu e n c q x).1;exact⟨by show e<=gi v 0;omega,λx=>absurd x (by show ¬e=gi v 0;omega)⟩
  ·obtain⟨u,x,y,z⟩:=i.own p hp q
   exact⟨u,kk.mem x,by show gi u 0<=gi v 0;omega,z⟩
  ·rw[e1 hc ml]
   refine Bb (G:=H) d λy R hy hR=>?_
   rw[WO gd OM (by unfold o8 at hI;omega)]at hy;cases hy;obtain⟨r1,r2,r3,r4,r5,r6,r7⟩:=hR;refine⟨rfl,rfl,rfl,⟨Int.le_refl 0,Int.le_refl 0⟩,r5,λV hV=>(by cases hV),λn c hn hm=>?_⟩;rw[t1]at hn;have:=(i.pu _ n c hn hm).1;replace this:gi v 0<=gi S.view 0:=this;omega
 | @hear _ a w r hw hrl hh ha=>
  refine⟨bs',H,k,g,m',⟨i.view,i.OQ,i.hok,i.Uk,i.hv,i.had,i.tk,i.pr,i.pu,i.OT,i.aB,i.own,i.aT,λv hv=>?_⟩,e0 ml▸d,hN⟩;show HR H v (rowAt (if _ then _ else _) v)
  split
  ·rw[q_ hM.len.last hrl hw hv]
   split
   ·subst v;exact hr hh
   ·exact i.last v hv
  ·exact i.last v hv
 |kept=>exact⟨bs',H,k,g,m',i,e0 ml▸d,hN⟩
 |book _ _=>exact⟨bs',H,k,g,m',i,e0 ml▸d,hN⟩
 |idle=>exact⟨bs',H,k,g,m',i,e0 ml▸d,hN⟩
 |done _=>exact⟨bs',H,k,g,m',i,e0 ml▸d,hN⟩
 |vW _ _ _=>exact⟨bs',H,k,g,m',i,e0 ml▸d,hN⟩
 |ops=>exact⟨bs',H,k,g,m',i,e0 ml▸d,hN⟩
 | @round _ b hb=>
  obtain⟨a,M,hh,ab6⟩:=hb;have h1:=hr hh;have hB:gi b 0<=9223372036854775807:=by
   have hi:=i.OT;cases M with
   |ask e b'=>cases ab6;exact h1.2.2.2.1
   |promise e b' q c=>cases ab6;exact h1.2.1.2.2.1
   |put e b' c=>cases ab6;exact h1.2.1.2.2.1
   |taken e b'=>
    cases ab6;rcases hh with hh|hh
    ·exact(h1 (hin _ _ hh).1.2.1).2.1.2.2.1
    ·obtain⟨_,_,c,e⟩:=hh.2
     cases b with
     |nil=>decide
     |cons x b=>
      have:=i.OQ.2.2.1;rw[gy _ _ _ _ OM,e]at this;exact this
   |_=>cases ab6
  have hi:=i.OT;refine⟨bs',H,k,g,m',⟨i.view,i.OQ,i.hok,i.Uk,i.hv,i.had,i.tk,i.pr,λe n c q x=>⟨(i.pu e n c q x).1,λy=>by have:=(i.pu e n c q x).2 y;show _<=max S.round (gi b 0);omega⟩,by show 0<=max S.round (gi b 0)∧max S.round (gi b 0)<=_;omega,λV hV=>(i.aB V hV).mono (.refl f H) (by show S.round<=max S.round (gi b 0);omega) λq=>((i.aB V hV).no q).1,i.own,i.aT,i.last⟩,?_,hN⟩;rw[e0 ml];intro R hR;obtain⟨r1,r2,r3,r4,r5,r6,r7⟩:=d R hR;exact⟨r1,r2,r3,by show 0<=R.round∧R.round<=max S.round (gi b 0);omega,r5,r6,r7⟩
 | @Nn _ W a b h c hl hc3 hV hh=>
  have p:=i.aB W hV;have h16:=hM.len.aB W hV;obtain⟨z,y0⟩:=W;unfold iJ at m'|-;dsimp only at m'|-;by_cases hq:y0=false∧b=sub z 7 2∧aI (sub z 0 7) (a:Int)=true
  ·obtain⟨rfl,rfl,hmem⟩:=hq
   rw[if_pos ⟨rfl,rfl,hmem⟩]at m'|-;have ha:a<5:=by obtain⟨x,hx,ex,_⟩:=B.mem_of hmem;omega
   obtain⟨w1,K,kk,gk,pk,t1,t2,hpk⟩:=aiL g h16 i.view p ha (hr hh) rfl rfl;have rd:=p.rd;refine⟨bs',K,k.trans kk,gk,m',⟨kk.mem i.view,i.OQ,i.hok,i.Uk,i.hv,λq=>kk.tk _ _ _ _ (i.had q),by rw[t1];exact i.tk,by rw[t2];exact i.pr,λe n c q x=>?_,i.OT,λV hV=>by cases hV;exact pk,λp hp q=>?_,λw hw=>(i.aT w hw).mono kk,λw hw=>(i.last w hw).mono kk⟩,?_,hN.mono kk⟩
   ·rcases hpk e n c q with q| ⟨e',q'⟩
    ·exact i.pu e n c q x
    ·exact⟨by rw[e'];exact Int.le_refl _,λ_=>by rw[q'];exact rd⟩
   ·obtain⟨u,x,y,w⟩:=i.own p hp q
    exact⟨u,kk.mem x,y,w⟩
   ·rw[e0 ml]
    intro R hR;obtain⟨r1,r2,r3,r4,r5,r6,r7⟩:=d R hR;have r6:=r6 _ hV;refine⟨r1,r2,r3,r4,r5,λV hV=>by cases hV;show gi (if _ then _ else _) 7<=_;rw[w1];exact r6,λn c hn hm=>?_⟩;rcases hpk _ n c hn with q| ⟨_,q'⟩
    ·exact r7 n c q hm
    ·rw[q'];exact r6
  ·rw[if_neg hq]at m'|-
   exact⟨bs',H,k,g,m',⟨i.view,i.OQ,i.hok,i.Uk,i.hv,i.had,i.tk,i.pr,i.pu,i.OT,λV hV=>by cases hV;exact p,i.own,i.aT,i.last⟩,(by rw[e0 ml];exact hV▸d),hN⟩
 | @taken _ W a b hV hh=>
  have p:=i.aB W hV;have h16:=hM.len.aB W hV;obtain⟨z,y0⟩:=W;unfold iy at m'|-;dsimp only at m'|-;by_cases hq:y0=true∧b=sub z 7 2∧aI (sub z 0 7) (a:Int)=true
  ·obtain⟨rfl,rfl,hmem⟩:=hq
   rw[if_pos ⟨rfl,rfl,hmem⟩]at m'|-;have ha:a<5:=by obtain⟨x,hx,ex,_⟩:=B.mem_of hmem;omega
   obtain⟨pk,w1⟩:=ae8 g h16 p ha (hr hh);refine⟨bs',H,k,g,m',⟨i.view,i.OQ,i.hok,i.Uk,i.hv,i.had,i.tk,i.pr,i.pu,i.OT,λV hV=>by cases hV;exact pk,i.own,i.aT,i.last⟩,?_,hN⟩;rw[e0 ml];intro R hR;obtain⟨r1,r2,r3,r4,r5,r6,r7⟩:=d R hR;have r6:=r6 _ hV;exact⟨r1,r2,r3,r4,r5,λV hV=>by cases hV;show gi (dC z 15 a) 7<=_;rw[w1];exact r6,r7⟩
  ·rw[if_neg hq]at m'|-
   exact⟨bs',H,k,g,m',⟨i.view,i.OQ,i.hok,i.Uk,i.hv,i.had,i.tk,i.pr,i.pu,i.OT,λV hV=>by cases hV;exact p,i.own,i.aT,i.last⟩,(by rw[e0 ml];exact hV▸d),hN⟩
end
end
section
open B (aI dw eu)
def QU(V:Nat->Int)(G:Gh)(t:Nat)(S:RS):Prop:=∃bs,MG V t S bs∧PI G t S∧DP G t S bs
def QD(V:Nat->Int)(G:Gh)(t:Nat)(D:DS):Prop:=∃bs,BF D bs∧∀R,dz st0 bs=some R->(mX R.own∧gi R.own 0<=5*(bs.length:Int)∧QW V t R.aT (gi R.own 0)∧V t<=gi R.own 0)∧PI G t R∧R.aB=none∧R.last=au 870
section
variable {V V':Nat->Int}{G H:Gh}{t f:Nat}{S:RS}{D:DS}
theorem QU.akH(h:QU V G t S)(mask eQ cut:Int):QD V G t (nD S.D mask eQ cut):=by
 obtain⟨bs,m,i,d⟩:=h;refine⟨bs,NK m.log _ _ _,λR hR=>?_⟩;obtain⟨e1,e2,e3⟩:=m.BI R hR;obtain⟨r1,r2,r3,r4,r5,r6,r7⟩:=d R hR;have hc:=m.log.cnt.1;have hv:=m.Cu;refine⟨⟨e1▸m.own,by rw[<-e1];omega,by rw[<-e1,<-e2];exact m.aT,e1▸m.vt⟩,?_,r3,r5⟩;unfold PI;rw[r1,r2,r3,r5,<-e1,<-e2];have rd:=i.OT;exact⟨i.view,i.OQ,i.hok,i.Uk,i.hv,i.had,i.tk,i.pr,λe n c q x=>⟨(i.pu e n c q x).1,λy=>by subst y;exact r7 n c q x⟩,by omega,(λV hV=>by cases hV),i.own,i.aT,λw hw=>by rw[kT hw];intro p hp q;unfold gi au at q;rw[List.getD_eq_getElem?_getD,List.getElem?_replicate,if_pos OM]at q;exact absurd q DC⟩
theorem QU.other(h:QU V G t S)(ht:t≠f)(k:yu f G H)(hV:∀w,V w<=V' w)(he:V' t=V t):QU V' H t S:=by
 obtain⟨bs,m,i,d⟩:=h;exact⟨bs,m.mono (λw _=>hV w) (he▸m.vt),i.other ht k,d.other ht k⟩
theorem QD.other(h:QD V G t D)(ht:t≠f)(k:yu f G H)(hV:∀w,V w<=V' w)(he:V' t=V t):QD V' H t D:=by
 obtain⟨bs,l,d⟩:=h;refine⟨bs,l,λR hR=>?_⟩;obtain⟨⟨a,b,c,e⟩,i,x,y⟩:=d R hR;exact⟨⟨a,b,c.mono (λw _=>hV w) (Int.le_refl _),he▸e⟩,i.other ht k,x,y⟩
theorem JB:∀(bs:List (List UInt8)) {S T S' T':RS},S.view=T.view->S.acc=T.acc->S.round=T.round->S.aB=T.aB->dz S bs=some S'->dz T bs=some T'->S'.view=T'.view∧S'.acc=T'.acc∧S'.round=T'.round∧S'.aB=T'.aB
 | [],S,T,S',T',h1,h2,h3,h4,h,h'=>by cases h;cases h';exact⟨h1,h2,h3,h4⟩
 |b::bs,S,T,S',T',h1,h2,h3,h4,h,h'=>by
  obtain⟨x,hx,h⟩:=Option.bind_eq_some_iff.1 h;obtain⟨y,hy,h'⟩:=Option.bind_eq_some_iff.1 h';rw[hx]at hy;cases hy;refine JB bs ?_ ?_ ?_ ?_ h h'<;>cases x<;>simp_all [dD,oM]
theorem QD.start(h:QD V G t D)(hH:Hi D)(B:Nat->List (List UInt8)):QD V G t (gT D B).2.1∧∀S,(gT D B).1=some S->QU V G t S∧S.B=B:=by
 obtain⟨bs,hD,hG⟩:=h;obtain⟨h1,h2⟩:=TI hD hH;unfold gT;cases e:dJ D with
 |mk o q=>
  obtain⟨D',er⟩:=q;rw[e]at h1 h2;cases o with
  |none=>exact⟨⟨bs,h2,hG⟩,λS h=>by cases h⟩
  |some t'=>
   obtain⟨bs',cnt,used⟩:=t';obtain⟨rfl,hl⟩:=h1 _ rfl;dsimp only at hl|-;cases hr:dz (r_ D' cnt used B) bs' with
   |none=>exact⟨⟨_,h2,hG⟩,λS h=>by cases h⟩
   |some S=>
    refine⟨⟨_,h2,hG⟩,λS' h=>?_⟩;cases h;obtain⟨k1,k2,k3,k4,k5⟩:=mq bs' _ _ hr;obtain⟨R,a,b,c,d,e'⟩:=Gs bs' (S:=r_ D' cnt used B) (T:=st0) rfl rfl rfl hr;obtain⟨q1,q2,q3,q4⟩:=JB bs' (S:=r_ D' cnt used B) (T:=st0) rfl rfl rfl rfl hr a;obtain⟨⟨g1,g2,g3,g4⟩,i,r3,r5⟩:=hG R a;have hlg:tO S.D bs' S.cnt S.used:=by rw[k1,k2,k3];exact hl
    have hc:=hlg.cnt.1;have hls:S.last=au 870:=e';have hi:PI G t S:=by
     unfold PI at i|-;rw[r5]at i;rw[hls,q1,q2,q3,q4,b,c];exact i
    dsimp only at g2;refine⟨⟨bs',⟨hlg,λR' hR'=>?_,by rw[b];exact g1,by rw[b];omega,by rw[c,b];exact g3,λw hw=>?_,by rw[b];exact g4⟩,hi,λR' hR'=>?_⟩,k5⟩
    ·rw[a]at hR';cases hR';exact⟨b,c,d⟩
    ·rw[hls,kT hw];exact rZ
    ·rw[a]at hR';cases hR'
     rw[q1,q2,q3,q4];exact⟨rfl,rfl,r3,⟨i.OT.1,Int.le_refl _⟩,r5,(λW hW=>by rw[r3]at hW;cases hW),λn c hn hm=>(i.pu _ n c hn hm).2 rfl⟩
end
structure QI (V:Nat->Int) (G:Gh) (C:CS):Prop where
 g:GI G
 up:∀t,t<5->C.up t=true->QU V G t (C.S t)
 dn:∀t,t<5->C.up t=false->QD V G t (C.S t).D
 net:NV V C.B
 np:NP G C.B
def QE(C:CS):Prop:=∃V G,QI V G C
section
variable {n:Nat}{C:CS}{V:Nat->Int}{G:Gh}
theorem QI.set(h:QI V G C){C':CS}{t:Nat}{V':Nat->Int}{H:Gh}(hj:∀j,j≠t->C'.S j=C.S j∧C'.up j=C.up j)(hV:∀w,V w<=V' w)(he:∀j,j≠t->V' j=V j)(k:yu t G H)(g:GI H)(hu:C'.up t=true->QU V' H t (C'.S t))(hd:C'.up t=false->QD V' H t (C'.S t).D)(hN:NV V' C'.B)(hP:NP H C'.B):QE C':=by
 refine⟨V',H,g,λj h5 q=>?_,λj h5 q=>?_,hN,hP⟩
 ·by_cases e:j=t
  ·subst e;exact hu q
  ·rw[(hj j e).2]at q;rw[(hj j e).1];exact(h.up j h5 q).other e k hV (he j e)
 ·by_cases e:j=t
  ·subst e;exact hd q
  ·rw[(hj j e).2]at q;rw[(hj j e).1];exact(h.dn j h5 q).other e k hV (he j e)
theorem QI.one(h:QI V G C){C':CS}{t:Nat}(hj:∀j,j≠t->C'.S j=C.S j∧C'.up j=C.up j)(hu:C'.up t=true->QU V G t (C'.S t))(hd:C'.up t=false->QD V G t (C'.S t).D)(hB:C'.B=C.B):QE C':=h.set hj (λ_=>Int.le_refl _) (λ_ _=>rfl) (.refl t G) h.g hu hd (hB▸h.net) (hB▸h.np)
theorem akI{f k:Nat}{In:Nat->gQ->Prop}{S S1:RS}(hf:f<5)(hm:kH f In k S S1):∀ {bs:List (List UInt8)} {G:Gh},(∀a M,In a M->M.Ok∧uK V a M∧zG G a M)->uS S->GI G->MG V f S bs->PI G f S->DP G f S bs->NP G S.B->∃bs' H,yu f G H∧GI H∧MG V f S1 bs'∧PI H f S1∧DP H f S1 bs'∧NP H S1.B:=by
 induction hm with
 |nil=>intro bs G _ _ g m i d hN;exact⟨bs,G,.refl f G,g,m,i,d,hN⟩
 |cons a b c ih=>
  intro bs G hin hM g m i d hN;obtain⟨b1,G1,k1,g1,m1,i1,d1,n1⟩:=amb hf hin a hM g m i d hN;obtain⟨b2,G2,k2,q⟩:=ih (λa M h=>⟨(hin a M h).1,(hin a M h).2.1,(hin a M h).2.2.mono k1⟩) (FY (λa M h=>(hin a M h).1) a hM) g1 m1 i1 d1 n1;exact⟨b2,G2,k1.trans k2,q⟩
theorem R8(hC:CI n C)(h:QI V G C){t k:Nat}(ht:t<5)(hu:C.up t=true){In:Nat->gQ->Prop}(hin:∀a M,In a M->M.Ok∧uK V a M∧zG G a M){S:RS}(hm:kH t In k (rs C t) S):QE (nC C t S):=by
 have hM:=hC.up t ht hu;obtain⟨bs,m,i,d⟩:=h.up t ht hu;have m':MG V t (rs C t) bs:=⟨m.log,m.BI,m.own,m.Cu,m.aT,m.last,m.vt⟩;obtain⟨b1,H,k1,g1,m1,i1,d1,n1⟩:=akI ht hm hin hM h.g m' i d h.np;have hN:NV (Lc V t (rs C t)) (rs C t).B:=h.net.mono λw _=>by
  unfold Lc;by_cases e:w=t
  ·subst e;rw[bE];exact m.vt
  ·rw[bI _ _ e];exact Int.le_refl _
 have gN:=abu ht (λa M h=>⟨(hin a M h).1,(hin a M h).2.1⟩) hm hM m' hN;have e2:(nC C t S).S t=S:=bE _ _ _;have hle:∀w,V w<=Lc V t S w:=λw=>by
  unfold Lc;by_cases e:w=t
  ·subst e;rw[bE];exact m1.vt
  ·rw[bI _ _ e];exact Int.le_refl _
 exact h.set (λj hj=>⟨bI _ _ hj,rfl⟩) hle (λj hj=>bI _ _ hj) k1 g1 (λ_=>by rw[e2];exact⟨b1,m1.mono (λw _=>hle w) (by unfold Lc;rw[bE];exact Int.le_refl _),i1,d1⟩) (λq=>by rw[show(nC C t S).up=C.up from rfl,hu]at q;cases q) gN n1
theorem aiN{B:Nat->List (List UInt8)}(h:NP G B){i:Nat}{q:List (List UInt8)}(hq:∀x∈q,x∈B i):NP G (gV B i q):=λf t hf ht b hb c hc M hM=>by
 refine h f t hf ht b ?_ c hc M hM;by_cases e:f*5+t=i
 ·rw[e,bE]at hb;rw[e];exact hq b hb
 ·rwa [bI _ _ e]at hb
theorem QI.sub(h:QI V G C){i:Nat}{q:List (List UInt8)}(hq:∀x∈q,x∈C.B i):QI V G {C with B:=gV C.B i q}:=⟨h.g,λt ht hu=>by
 obtain⟨bs,m,x⟩:=h.up t ht hu;exact⟨bs,m,x⟩,h.dn,Rv h.net hq,aiN h.np hq⟩
theorem ab7(hC:CI n C)(h:QI V G C){QY:Bool}{f t:Nat}(hf:f<5)(ht:t<5){b:List UInt8}(hb:∀c,A.dJ (UInt8.ofNat f) (UInt8.ofNat t) b=some c->∀M,lZ c=some M->uK V f M∧zG G f M):QE (pU C QY f t b).1:=by
 unfold pU;cases e0:A.dJ (UInt8.ofNat f) (UInt8.ofNat t) b with
 |none=>exact⟨V,G,h⟩
 |some bs=>
  dsimp only
  split
  ·exact⟨V,G,h⟩
  ·rename_i hc
   cases e:lZ bs with
   |none=>exact⟨V,G,h⟩
   |some M=>
    have hok:=Kz e;have hu:C.up t=true:=lU (by simpa using λh=>hc (.inr h));have hM:=hC.up t ht hu;exact R8 hC h ht hu (In:=λa M'=>a=f∧M'=M) (λa M' hh=>by rw[hh.1,hh.2];exact⟨hok,hb _ e0 _ e⟩) (QA ht hM.len hM.ep hf hok.len ⟨rfl,rfl⟩)
theorem aiO(hC:CI n C)(h:QI V G C){kind:Int}{f t:Nat}(hf:f<5)(ht:t<5)(z:Int):QE (vJ C kind f t z).1:=by
 unfold vJ;have hq:=hC.net (f*5+t);cases e:C.B (f*5+t)with
 |nil=>exact⟨V,G,h⟩
 |cons b0 bt=>
  rw[e]at hq;dsimp only
  split
  ·split
   ·exact⟨V,G,h⟩
   ·exact⟨V,G,h.sub λx hx=>by rw[e];simp at hx|-;grind⟩
  ·generalize hk:((max z 0) % ((bt.length+1:Nat):Int)).toNat=k
   cases e2:(b0::bt).drop k++(b0::bt).take k with
   |nil=>exact⟨V,G,h⟩
   |cons b r=>
    have hall:∀x∈b::r,x∈C.B (f*5+t):=λx hx=>by
     rw[<-e2]at hx;rw[e];rcases List.mem_append.1 hx with hx|hx
     ·exact List.mem_of_mem_drop hx
     ·exact List.mem_of_mem_take hx
    have KX:∀x∈b::r,x.length<=100000:=λx hx=>by have:=hall x hx;rw[e]at this;exact hq.2 x this
    have hlen:(b::r).length<=8:=by
     rw[<-e2,List.length_append,List.length_drop,List.length_take];have:=hq.1;omega
    have hC2:CI n {C with B:=gV C.B (f*5+t) r}:=aeE hC (AB hC.net ⟨by simp only[List.length_cons]at hlen;omega,λx hx=>KX x (List.mem_cons_of_mem _ hx)⟩);exact ab7 hC2 (h.sub λx hx=>hall x (List.mem_cons_of_mem _ hx)) hf ht λc hc M hM=>⟨h.net f t hf ht b (hall b SI) c hc M hM,h.np f t hf ht b (hall b SI) c hc M hM⟩
theorem ab8(h:QI V G C){i:Nat}(hi:i<5)(mask eQ cut:Int):QE (kY C i mask eQ cut):=by
 have e2:(kY C i mask eQ cut).S i={C.S i with D:=nD (C.S i).D mask eQ cut}:=bE _ _ _;have e3:(kY C i mask eQ cut).up i=false:=bE _ _ _;refine h.one (t:=i) (λj hj=>⟨bI _ _ hj,bI _ _ hj⟩) (λq=>by rw[e3]at q;cases q) (λ_=>?_) rfl;rw[e2];cases hu:C.up i with
 |true=>exact(h.up i hi hu).akH _ _ _
 |false=>
  obtain⟨bs,a,b⟩:=h.dn i hi hu;exact⟨bs,Ct a _ _ _,b⟩
theorem ab9(hC:CI n C)(h:QI V G C){i:Nat}(hi:i<5):QE (jK C i).1:=by
 unfold jK
 split
 ·exact⟨V,G,h⟩
 ·rename_i hu
  have hu:C.up i=false:=by simpa using hu
  obtain⟨h1,h2⟩:=(h.dn i hi hu).start (hC.hi i hi) C.B;cases e:gT (C.S i).D C.B with
  |mk oo q=>
   obtain⟨D',er⟩:=q;rw[e]at h1 h2;cases oo with
   |none=>
    have d2:(nJ C i D').S i={C.S i with D:=D'}:=bE _ _ _;exact h.one (C':=nJ C i D') (t:=i) (λj hj=>⟨bI _ _ hj,rfl⟩) (λq=>by rw[show(nJ C i D').up=C.up from rfl,hu]at q;cases q) (λ_=>by rw[d2];exact h1) rfl
   |some S=>
    have e2:(zu C i S).S i=S:=bE _ _ _;have e3:(zu C i S).up i=true:=bE _ _ _;exact h.one (C':=zu C i S) (t:=i) (λj hj=>⟨bI _ _ hj,bI _ _ hj⟩) (λ_=>by rw[e2];exact(h2 S rfl).1) (λq=>by rw[e3]at q;cases q) rfl
theorem akJ(hC:CI n C)(h:QE C){z:List Int}(hz:z.length=11):QE (nA C z).1:=by
 obtain⟨V,G,h⟩:=h;have Ve:∀a M,(λ_ _=>False:Nat->gQ->Prop) a M->M.Ok∧uK V a M∧zG G a M:=λ_ _ h=>h.elim
 have same:QE C:=⟨V,G,h⟩;unfold nA;split
 ·exact same
 ·rename_i hm
  have hi:(gi z 1).toNat <5:=by omega
  dsimp only
  split
  ·split
   ·rename_i hu
    have hM:=hC.up _ hi (lU hu);exact R8 hC h hi (lU hu) Ve (FW hi hM.len hM.ep hM.book (by rw[az];omega))
   ·exact same
  ·split
   ·split
    ·exact aiO hC h hi OM _
    ·exact same
   ·split
    ·split
     ·rename_i hu
      have hM:=hC.up _ hi (lU hu);exact R8 hC h hi (lU hu) Ve (QB hi hM.len hM.ep)
     ·exact same
    ·split
     ·have e2:∀D:DS,(nJ C (gi z 1).toNat D).S (gi z 1).toNat={C.S (gi z 1).toNat with D:=D}:=λD=>bE _ _ _
      refine h.one (t:=(gi z 1).toNat) (λj hj=>⟨bI _ _ hj,rfl⟩) (λq=>?_) (λq=>?_) rfl
      ·show QU V G _ ((nJ C _ _).S _)
       rw[e2];obtain⟨bs,m,x⟩:=h.up _ hi q;exact⟨bs,⟨⟨m.log.ld,m.log.le,m.log.st⟩,m.BI,m.own,m.Cu,m.aT,m.last,m.vt⟩,x⟩
      ·show QD V G _ ((nJ C _ _).S _).D
       rw[e2];exact h.dn _ hi q
     ·split
      ·exact ab8 h hi _ _ _
      ·split
       ·exact ab9 hC h hi
       ·exact same
theorem aiP:QE C0:=by
 refine⟨λ_=>0,⟨[eu],λ_ _ _ _=>False,λ_ _ _=>False,λ_ _ _ _=>False⟩,⟨rfl,λk v w hv hw=>by simp at hw,λ_ _ _ _ h=>h.elim,λ_ _ _ _ h=>h.elim,λ_ _ _ _ h=>h.elim,λ_ _ _ _ h=>h.elim,λ_ _ _ h=>h.elim⟩,λt ht _=>?_,λt ht hu=>(by cases hu),λf t _ _ b hb=>(by cases hb),λf t _ _ b hb=>(by cases hb)⟩;have hcl:tO (cZ iP).1 [] 0 0:=⟨⟨rfl,rfl⟩,by omega,.inl ⟨rfl,rfl,λk _=>rfl⟩⟩;have hz:∀ {w p:Nat},w<5->p<5->¬0<gi (rowAt (au 870) w) (29+p):=λhw hp q=>by rw[kT hw]at q;unfold gi au at q;rw[List.getD_eq_getElem?_getD,List.getElem?_replicate,if_pos OM]at q;exact absurd q DC
 refine⟨[],⟨hcl,λR hR=>by cases hR;exact⟨rfl,rfl,rfl⟩,rZ.1,(by show gi (au 174) 0<=5*((0:Nat):Int);decide),Ue λ_=>Int.le_refl _,λw hw=>by show BG (rowAt (au 870) w);rw[kT hw];exact rZ,Int.le_refl _⟩,⟨List.mem_singleton.2 rfl,?_,?_,?_,Int.le_refl _,λq=>absurd q (by show ¬(8:Int)<=0;decide),λ_ _ _ h=>h.elim,λ_ _ _ h=>h.elim,λ_ _ _ h=>h.elim,by show 0<=(0:Int)∧(0:Int)<=_;decide,(λV hV=>by cases hV),λp hp q=>?_,λw hw p hp q=>absurd q (hz hw hp),λw hw p hp q=>absurd q (hz hw hp)⟩,λR hR=>?_⟩
 ·show yl (au 2);unfold yl;decide
 ·show yl (au 2);unfold yl;decide
 ·show zF (au 3);unfold zF;decide
 ·have:=hz (w:=0) OM hp
  rw[kT OM]at this;exact absurd q this
 ·cases hR
  exact⟨rfl,rfl,rfl,⟨Int.le_refl 0,Int.le_refl 0⟩,rfl,(λV hV=>by cases hV),λ_ _ h=>h.elim⟩
theorem ae_(h:QE C){i:Nat}(hi:i<5)(hu:C.up i=true)(hm:aI (C.S i).view (i:Int)=true){d:Nat}(hd:d<5)(h0:0<gi (C.S i).own (29+d)):dw (C.S i).view (d:Int)=((i:Int),true):=by
 obtain⟨V,G,h⟩:=h;obtain⟨bs,m,x,_⟩:=h.up i hi hu;obtain⟨u,hu,hle,e⟩:=x.own d hd h0;obtain⟨k,_,g⟩:=h.g.at_ x.view;have hz:gi (C.S i).view (2+i)=0:=by
  apply Classical.byContradiction;intro hne;have:=(g.CW i hi hne).2;rw[hm]at this;cases this
 have hs:gi (C.S i).view (2+d)=i+1:=by
  rcases(h.g.later hu x.view hle hd hi).1 (.inl e)with y|y
  ·exact y
  ·exact absurd hz y.1
 have hmd:B.aL (d:Int)=true:=by simp[B.aL];omega
 rw[dw,if_pos ⟨hmd,by rw[Int.toNat_natCast];omega⟩,Int.toNat_natCast,hs];congr 1;omega
end
end
section
open B (aI dw)
theorem ab_:∀(l:List (List Int)) {n:Nat} {C:CS},(∀z∈l,z.length=11)->CI n C->QE C->QE (kZ C l)
 | [],n,C,_,_,h=>h
 |z::l,n,C,hl,h,q=>ab_ l (λy hy=>hl y (List.mem_cons_of_mem _ hy)) (Ox h (hl z SI)) (akJ h q (hl z SI))
section
variable {ops:Array Oper}{Q:Exit->Act->World->Prop}{rest:List Oper}{a:Act}{w:World}{dst:Option Tmp}{pos:String}{af:Array Edge}{x:Operand}{ty:TypeId}{zs:List Int}
theorem Hm{P:Program}{t i off e n:Nat}{fs:Array Field}{f:Field}(hx:a.eval x=ia zs)(hu:P.underlying t=some (.struct fs))(hf:fs[i]? =some f)(ht:f.type=e)(ho:f.offset=off)(hT:gm P e n)(k:wpList P ops Q rest (a.put dst (ia (sub zs off n))) w):wpList P ops Q (⟨dst,.field t x i,ty,pos,af,none⟩::rest) a w:=by
 refine av (v:=ia (sub zs off n)) ?_ k;unfold gu execOp;simp only[hx,ia,Instr.field,Sem.run_bind,run_underlying hu,Result.andThen_ok,hf,ht,ho,asAgg,Sem.run_pure,zP hT,sub,List.map_drop,List.map_take]
theorem amc:(prog.fieldsOf 41)[2]? =some (((prog.fieldsOf 41)[2]?).getD default):=by kernel_rfl
theorem kfh(hx:a.eval x=ia zs)(k:wpList prog ops Q rest (a.put dst (ia (sub zs 29 5))) w):wpList prog ops Q (⟨dst,.field 41 x 2,ty,pos,af,none⟩::rest) a w:=
 Hm hx ahW amc KF KF (bP.out (t:=28)) k
end
section
variable (w0:World)(a:Option Addr)(len c:Nat)(row:Nat->List Int)(h:uE w0 a len 11 row)(g:Nat)(og:Obj)(hg:w0.heap[g]? =some og)(hT:Jn g og)
include h hg hT
theorem R9:Calls prog 4 #[.slice a len c] w0 λe w'=>e=.returned (.bool true)∧Below w0.heap.size w0 w':=by
 have hI:=RQ hg hT;by_cases hlen:len<=1200
 ·obtain⟨C,hC⟩:∃C,Hid (C=kZ C0 (fI len row)):=⟨_,HD rfl⟩
  have hCI:Hid (CI len C):=HD (hC.out▸aeW h);have hQ:Hid (QE C):=HD (hC.out▸ab_ (fI len row) (n:=0) (λz hz=>by
   obtain⟨j,hj,rfl⟩:=List.mem_map.1 hz;exact(h.row j (by have:=List.mem_range.1 hj;omega)).1) zx aiP)
  obtain⟨lv,hll⟩:∃lv,Hid (lv=xu C):=⟨_,HD rfl⟩;have hM:∀i,i<5->∀S,MF C i=some S->bB S:=λi hi S hS=>(Ui hCI.out hi hS).len
  have hlv:Hid (lv.length=7):=HD (hll.out▸(Ll hCI.out).1);have akK:Hid (eG lv):=HD (hll.out▸(Ll hCI.out).2);have hd:decide ((len:Int)<=1200)=true:=by simp;omega
  go_enter func4,ntmps4;go_wp2_with(first|go_at_call 8;refine KC jR hI (Dc _ g og (hI.at_ aC)) ?_;intro w1 hI|go_at_call 9;refine KD hI (De _ a len c) ?_;intro w1 hI|go_at_call 11;(with_reducible refine(aiB _ a len c row (h.below (tabO hg hI aC)) hlen).mono ?_);rintro e w1 ⟨X,Y,rfl,hJ⟩;(rw[<-hC.out]at hJ);replace hI:=hI.seq hJ;clear hJ;simp only[List.cons_append,List.nil_append]at hI|go_at_call 12;(with_reducible refine(abJ _ X Y C hM (hI.at_ aC)).mono ?_);rintro e w1 ⟨rfl,hJ⟩;(rw[<-hll.out]);replace hI:=hI.on hJ jR;clear hJ|(with_reducible refine DT hI (k:=?_));intro bl w hI|(with_reducible refine JJ (vs:=lv) hI RF RF jR hlv.out (ag _) ?_);intro w hI);go_wp2_with fail
  (try simp only[QN])
  replace hI:Inv [g] w0 w [ib bl 30 lv,bF X Y C,gU g og]:=hI
  go_loopg [5,20] 5 (λk1 s5 s20 wr=>∃(i:Nat),k1=5-i∧i<=5∧s20=.int .i64 (i:Int)∧Inv [g] w0 wr [ib bl 30 lv,bF X Y C,gU g og])
  case atStart=>exact⟨0,rfl,by omega,rfl,hI⟩
  case round=>
   clear hI;obtain⟨i,rfl,hi,rfl,hI⟩:=hrel;by_cases hi5:i<5
   ·have hd5:decide ((i:Int) <5)=true:=by simp;omega
    cases hub:nM C i
    case false=>
     have hmv:Hid ((if nM C i=true then Value.pointer (some ⟨(Y.m i).b,0,none⟩)else .pointer none)=.pointer none):=HD (if_neg (by simp[hub]));go_upto_region 11 with(go_at_call 13;refine KR (iM hi5 hI aM) ?_;rw[hmv.out])
     (refine ZR [0,1,2,5,6,7,8,10,12,13] [11] [10] [0,1,2,3,4,5,6,7,8,9,11,10,12,13] (λw=>Inv [g] w0 w [ib bl 30 lv]) hI ?_;intro wd hI)
     (repeat(first| ((with_reducible refine zR RF RF RF RF ?_);(simp only[QN])) | ((with_reducible refine tZ RF RF (by exact(hI.sub SB)) ?_);(simp only[QN])) | (refine ZA ?_;go_wp2_with(fail);refine gz ?_)));refine dN ?_
     go_wp2_with(fail);go_roundg (5- (i+1))
     case measure=>omega
     case rel=>exact⟨i+1,rfl,by omega,rfl,hI⟩
    case true=>
     have hu:C.up i=true:=by rw[nM,Bool.and_eq_true]at hub;exact hub.1
     have hmv:Hid ((if nM C i=true then Value.pointer (some ⟨(Y.m i).b,0,none⟩)else .pointer none)=.pointer (some ⟨(Y.m i).b,0,none⟩)):=HD (if_pos hub);obtain⟨V,hV⟩:=EH ((C.S i).view);have hvl:V.length=7:=by rw[<-hV.out];exact(hCI.out.up i hi5 hu).len.view
     obtain⟨mb,hmb⟩:=EH (aI lv (i:Int));go_upto_region 11 with(go_at_call 13;refine KR (iM hi5 hI aM) ?_;rw[hmv.out])
     have amD:=hlv.out;cases mb with
     |false=>
      (refine ZR [0,1,2,5,6,7,8,10,12,13] [11] [10] [0,1,2,3,4,5,6,7,8,9,11,10,12,13] (λw=>Inv [g] w0 w [ib bl 30 lv]) hI ?_;intro wd hI)
      (repeat(first| ((with_reducible refine zR RF RF RF RF ?_);(simp only[QN])) | ((with_reducible refine tZ RF RF (by exact(hI.sub SB)) ?_);(simp only[QN])) | (refine ZA ?_;go_wp2_with(go_at_call 14;(with_reducible refine(B.fO _ lv (i:Int) hlv.out).mono ?_);(rw[hmb.out]);rintro e w1 ⟨rfl,hJ⟩;replace hI:=hI.call hJ;clear hJ);refine gz ?_) | (refine ZC ?_;go_wp2_with(refine YL ?_);refine fZ ?_)));refine dN ?_
      go_wp2_with(fail);go_roundg (5- (i+1))
      case measure=>omega
      case rel=>exact⟨i+1,rfl,by omega,rfl,hI⟩
     |true=>
      by_cases hVl:V=lv
      case neg=>
       have hne:decide (V=lv)=false:=decide_eq_false hVl;clear hVl
       (refine ZR [0,1,2,5,6,7,8,10,12,13] [11] [10] [0,1,2,3,4,5,6,7,8,9,11,10,12,13] (λw=>Inv [g] w0 w [ib bl 30 lv]) hI ?_;intro wd hI)
       (repeat(first| (refine ZA ?_;go_wp2_with(first|refine YL ?_|go_at_call 14;(with_reducible refine(B.fO _ lv (i:Int) hlv.out).mono ?_);(rw[hmb.out]);rintro e w1 ⟨rfl,hJ⟩;replace hI:=hI.call hJ;clear hJ);refine gz ?_) | (refine ZB ?_;go_wp2_with(go_at_call 15;refine KE (Li hi5 hu hI aM hV.out) ?_;intro w1 hI);(refine iU (by exact(hI.sub SB)) ?_)) | (refine ZC ?_;go_wp2_with(refine YL ?_);refine fZ ?_) | ((refine iA RF RF RF RF (by exact(hI.sub SB)) (by intro w (hI:Inv _ _ w _);with_reducible exact Xf hI) ?_);(simp only[QN]))));refine dN ?_
       go_wp2_with(fail);go_roundg (5- (i+1))
       case measure=>omega
       case rel=>exact⟨i+1,rfl,by omega,rfl,hI⟩
      case pos=>
       have hne:decide (V=lv)=true:=decide_eq_true hVl;obtain⟨O,hO⟩:=EH ((C.S i).own);have hol:O.length=174:=by rw[<-hO.out];exact(hCI.out.up i hi5 hu).len.own
       have akL:(sub O 29 5).length=5:=by rw[az];omega
       have hqe:Hid (∀q:Nat,q<5->0<gi (sub O 29 5) q->dw lv (q:Int)=((i:Int),true)):=HD λq hq h0=>by
        rw[gy _ _ _ _ hq,<-hO.out]at h0;rw[<-hVl,<-hV.out];exact ae_ hQ.out hi5 hu (by rw[hV.out,hVl];exact hmb.out) hq h0
       clear hVl
       (refine ZR [0,1,2,5,6,7,8,10,12,13] [11] [10] [0,1,2,3,4,5,6,7,8,9,11,10,12,13] (λw=>Inv [g] w0 w [ib bl 30 lv]) hI ?_;intro wd hI)
       (repeat(first| (refine ZA ?_;go_wp2_with(first|refine YL ?_|go_at_call 14;(with_reducible refine(B.fO _ lv (i:Int) hlv.out).mono ?_);(rw[hmb.out]);rintro e w1 ⟨rfl,hJ⟩;replace hI:=hI.call hJ;clear hJ);refine gz ?_) | (refine ZB ?_;go_wp2_with(go_at_call 15;refine KE (Li hi5 hu hI aM hV.out) ?_;intro w1 hI);(refine iU (by exact(hI.sub SB)) ?_)) | (refine ZC ?_;go_wp2_with(refine YL ?_);refine fZ ?_) | ((refine iA RF RF RF RF (by exact(hI.sub SB)) (by intro w (hI:Inv _ _ w _);with_reducible exact Xf hI) ?_);(simp only[QN]))));refine dN ?_
       go_wp2_with(first|go_at_call 16;refine KE (Lj hi5 hu hI aM hO.out) ?_;intro w1 hI|with_reducible refine kfh (zs:=O) RF ?_)
       go_loopg [7,8,43] 5 (λk2 s7 s8 s43 wr=>∃q:Nat,k2=5-q∧q<=5∧s43=.int .i64 (q:Int)∧Inv [g] w0 wr [ib bl 30 lv,bF X Y C,gU g og])
       case atStart=>exact⟨0,rfl,by omega,rfl,hI⟩
       case round=>
        clear hI;obtain⟨q,rfl,hq,rfl,hI⟩:=hrel;by_cases hq5:q<5
        ·have hd6:decide ((q:Int) <5)=true:=by simp;omega
         obtain⟨⟨ho,hb⟩,hh⟩:=EH (dw lv (q:Int));obtain⟨e,he⟩:=EH (gi (sub O 29 5) q);by_cases h0:0<e
         case pos=>
          have hx:=hqe.out q hq5 (by rw[he.out];exact h0);rw[hh.out]at hx;obtain⟨rfl,rfl⟩:=Prod.mk.inj hx;have h0':decide (0<e)=true:=decide_eq_true h0;clear hx h0;go_wp2_with(first|(with_reducible refine abK (zs:=sub O 29 5) hq5 akL RF RF ?_);rw[he.out]|with_reducible refine LU (zs:=lv) hI (hl:=hlv.out) (k:=?_)|go_at_call 17;refine KD hI (yg _ lv (q:Int) hlv.out akK hh.out) ?_;intro w1 hI|refine YL ?_);go_roundg (5- (q+1))
          case measure=>omega
          case rel=>exact⟨q+1,rfl,by omega,rfl,hI⟩
         case neg=>
          have h0':decide (0<e)=false:=decide_eq_false h0;clear h0;go_wp2_with(first|(with_reducible refine abK (zs:=sub O 29 5) hq5 akL RF RF ?_);rw[he.out]|with_reducible refine LU (zs:=lv) hI (hl:=hlv.out) (k:=?_)|go_at_call 17;refine KD hI (yg _ lv (q:Int) hlv.out akK hh.out) ?_;intro w1 hI);go_roundg (5- (q+1))
          case measure=>omega
          case rel=>exact⟨q+1,rfl,by omega,rfl,hI⟩
        ·obtain rfl:q=5:=by omega
         go_wp2_with(fail);go_roundg (5- (i+1))
         case measure=>omega
         case rel=>exact⟨i+1,rfl,by omega,rfl,hI⟩
   ·obtain rfl:i=5:=by omega
    go_wp2_with(fail);go_ret;exact⟨rfl,tabO hg hI a_⟩
 ·have hd:decide ((len:Int)<=1200)=false:=by simp;omega
  go_enter func4,ntmps4;exact W38
end
end
namespace wholeHeirs
open Go.ChangeShapes Go.WideShapes Go.ChangeAt Go.RowKit
theorem lifted(os:Os)(started:os.Started)(H:Type)(enc:TypeId×Value->H):
  ReturnsInHanded {} Tryz.checked os 4 .any (λw args=>(Rows.wholeHeirsSpec.pre enc prog f4 [] false w args∧laidMetH prog Rows.wholeHeirsRow.laid w)∧sizedMet enc prog f4 (OpenSpec.ofChange Rows.wholeHeirsSpec) false w args) (Rows.wholeHeirsSpec.post enc prog f4 false true false false):=by
 refine returnsInHanded_of_change_and (C:=Tryz.checked) (X:=λw _=>laidMetH prog Rows.wholeHeirsRow.laid w) (λ_ _ _ hh h=>h.of_heap hh) agq started KF func4
  (ChangeSpec.witness_shaped (enc:=enc) (C:=Tryz.checked) (os:=os) (X:=λw _=>laidMetH prog Rows.wholeHeirsRow.laid w) false (World.doorLaid prog 400 os) #[.slice none 0 0] 8 rfl (World.shaped_of_RefB KF KF) KF KF KF (GH os _)) ?_
 intro W base args ds gs before hval0 hW hcnd hsz0 hL _;have hval:∀(j:Nat) t v,f4.params[j]? =some t->args[j]? =some v->Value.okWide prog W .any base t v:=hval0;have hsz:(DataW.weightsEach prog (f4.params.toList++Rows.wholeHeirsSpec.plain.varTypes prog) (ds++gs)).all (· <=reachBytes)=true:=hsz0;have hW':=hW;obtain⟨p,q,hA0,hV,rfl,hfz,hnd⟩:=hW;have hA:DataW.TrodAll enc prog W 0 (λ_=>true) true f4.params.toList args.toList ds p:=hA0;rw[params4]at hA hval hsz;obtain⟨v0,vs0,d0,ds0,p0,q0,hargs,rfl,rfl,h0,r0⟩:=trodAll_cons hA;obtain⟨rfl,rfl,rfl⟩:=trodAll_nil r0;obtain rfl:args=#[v0]:=by cases args;simp_all
 obtain⟨rfl,rfl⟩:=trodVars_none hV;have k0:=h0;have lt0:∀x∈p0,x.block<W.heap.size:=by obtain⟨m,hm⟩:=k0;exact DataW.trod_lt m _ _ _ hm
 obtain⟨a0,rfl,w0⟩:=JE aiC underlying22 (hval 0 22 v0 rfl rfl) h0 (λn hn=>by have:=List.all_eq_true.1 hsz _ (DataW.weights_mem_each (j:=0) (t:=22) rfl rfl n hn);simpa using this);clear hA0 hval0;obtain⟨row,hrow⟩:=w0.ints;obtain⟨g,og,hg,hT⟩:=Ry (GG hL);refine(R9 W a0.1 a0.2.1 a0.2.2.1 row hrow g og hg hT).mono λe W' ⟨he,bel⟩=>?_
 exact W36
theorem over:Rows.wholeHeirsRow.holds Tryz.pinned (OpenSpec.ofChange Rows.wholeHeirsSpec):=
 OpenClaim.holds_of_wide 4 f4 rfl rfl rfl rfl rfl rfl rfl ⟨rfl,rfl,rfl,rfl,rfl⟩ rfl rfl rfl rfl rfl KF func4 KF
  (of_decide_eq_true KF) (by unfold Func.isWrapper;rw[if_neg (by decide+kernel)];exact⟨rfl,rfl⟩)
  (λos started H enc _=>lifted os started H enc)
theorem proved:Rows.WholeHeirsCardSaid:=
 Claim7.holds_tied_plain_at .later [] [.data,.data,.data] true (true, "34804500066b9c71cf38ff047d3a32a9bb5856fb1a39d40ea7cbbfce4c1cc454") true
  over (λ_ h=>by cases h) KF (λ_ h=>by cases h) wholeHeirs_row_tie rfl ⟨rfl,rfl⟩ KF rfl
  (λf fn hf hfn=>by
   obtain rfl:f=4:=Option.some.inj ((show prog.funcNamed "legatee/legateetop.WholeHeirs" =some 4 by kernel_rfl).symm.trans hf) |>.symm;obtain rfl:fn=f4:=(Option.some.inj (func4.symm.trans hfn)).symm;exact⟨by kernel_rfl,λj t ht=>by
    rw[params4]at ht;have hm:t∈[22]:=by simpa using Array.mem_of_getElem? ht
    obtain rfl:t=22:=by simpa using hm
    exact(show prog.wantsStandIn 22=false by kernel_rfl)⟩)
  KF
end wholeHeirs
#print axioms Go.Proofs.YtdakkaapokhnnaaGreatDoor.wholeHeirs.proved
