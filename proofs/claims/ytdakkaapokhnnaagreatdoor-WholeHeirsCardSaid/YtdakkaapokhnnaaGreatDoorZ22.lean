/- Contracts of functions. No condition. -/
import Derived.Test.YtdakkaapokhnnaaGreatDoorZ18
import Derived.Test.YtdakkaapokhnnaaGreatDoorZ20
namespace Go.Proofs.YtdakkaapokhnnaaGreatDoor
open Go.RowKit Go.Proofs.Tryz
set_option maxRecDepth 100000
set_option maxHeartbeats 6400000
set_option linter.all false
section
open B (aI dw eu dC gH kM eB kF cB bK pJ)
theorem qb{zs}:eG zs↔∀x∈zs,o8 x:=by
 constructor
 ·intro h x hx
  obtain⟨i,hi⟩:=List.getElem?_of_mem hx;have:=h i;unfold gi at this
  rwa [List.getD_eq_getElem?_getD,hi]at this
 ·intro h i
  unfold gi;rw[List.getD_eq_getElem?_getD];cases e:zs[i]? with
  |none=>grind
  |some x=>exact h x (List.mem_of_getElem? e)
theorem eG.sub{zs}(h:eG zs)(o n):eG (sub zs o n):=
 qb.2 λx hx=>qb.1 h x (List.mem_of_mem_drop (List.mem_of_mem_take hx))
theorem eG.dK{zs ws}(h:eG zs)(hw:eG ws)(o):eG (dK zs o ws):=
 qb.2 λx hx=>by
  grind[dK,qb]
theorem TD{y l}(hy:eG y)(hl:eG l){i h}(hh:o8 h):eG (C.uF y i h l):=(oO hy hh _).dK hl _
theorem aar{x dead}(hx:eG x)(hd:eG dead)(who):eG (C.tJ x who dead).1:=by
 have tl:∀j,eG (C.iD who dead (C.lI x who dead) j):=by
  intro j
  induction j with
  |zero=>exact TD hx (hd.sub _ _) (lN _)
  |succ j ih=>
   unfold C.iD C.gX
   split
   ·exact TD ih ((hd.sub _ _).sub _ _) (hd _)
   omega
 unfold C.tJ
 split
 ·split
  ·grind[qa]
  ·exact oO (tl 5) (lN _) _
 grind[qa]
theorem I1{y l i h}(hy:y.length=174)(hl:l.length=28)(hi:i<5):C.cellsOf (C.uF y i h l)=C.cellsOf y:=by
 grind[C.cellsOf,C.uF,C.jQ,C.fF]
theorem ow{y l i h}(hy:y.length=174)(hl:l.length=28)(hi:i<5):(C.uF y i h l).length=174:=by
 grind[C.uF,aY]
theorem QM{x dead}(hx:x.length=174)(hd:dead.length=174){who}(h0:(C.tJ x who dead).2=0):C.cellsOf (C.tJ x who dead).1=C.cellsOf x:=by
 unfold C.tJ at h0|-
 split
 ·have h5:who.toNat<5:=by simp_all[C.aL]
  have tl:∀j,j<=5->(C.iD who dead (C.lI x who dead) j).length=174∧C.cellsOf (C.iD who dead (C.lI x who dead) j)=C.cellsOf x:=by
   have hc:(C.cellsOf dead).length=28:=by grind[C.cellsOf,az]
   intro j hj
   induction j with
   |zero=>exact⟨ow hx hc h5,I1 hx hc h5⟩
   |succ j ih=>
    grind[C.iD,C.gX,C.leftOf,az,ow,I1]
  split
  ·grind
  ·show C.cellsOf ((C.iD who dead (C.lI x who dead) 5).set 0 _)=_
   grind[C.cellsOf.eq_1,C.fF]
 grind
theorem BD{last}(hl:last.length=870)(h64:eG last):∀ {l x y},(∀i∈l,i<5)->x.length=174->eG x->fP last x l=some y->eG y∧C.cellsOf y=C.cellsOf x
 | [],x,y,_,hx,hr,h=>by grind[fP.eq_1]
 |i::l,x,y,h5,hx,hr,h=>by
  have hd:(rowAt last i).length=174:=by have:=h5 i SI;grind[rowAt,az]
  rw[fP]at h
  split at h
  ·exact BD hl h64 (λj hj=>h5 j (List.mem_cons_of_mem _ hj)) hx hr h
  ·split at h
   ·obtain⟨a,b⟩:=BD hl h64 (λj hj=>h5 j (List.mem_cons_of_mem _ hj)) (C.E8 _ _ _ hx hd) (aar hr (h64.sub _ _) _) h
    grind[QM]
   grind
theorem adT{x key xU n}(hx:x.length=174)(h64:eG x)(hr:C.wW x)(hk:key<4)(hf:xU<7)(hn:1<=n)(hc:C.cntF x key xU<=1099511627776-n):C.wW (C.jq x (1+key*7+xU) n)∧eG (C.jq x (1+key*7+xU) n):=by
 have ho:=C.Zl key xU n hx hr hk hf hn hc;refine⟨ho,?_⟩;have hg:gi (C.jq x (1+key*7+xU) n) (1+key*7+xU)=gi x (1+key*7+xU)+n:=by
  unfold C.jq;rw[C.pK,if_neg OM,C.pK,if_pos ⟨rfl,by omega⟩]
 have hb:C.MR (gi x (1+key*7+xU)+n):=by
  rw[<-hg];obtain⟨a,b,c,d⟩:=C.Aj ho key hk;have:xU=0∨xU=1∨2<=xU:=by omega
  rcases this with rfl|rfl|h2
  ·exact a
  ·exact b
  ·have e:=gy (C.jq x (1+key*7+xU) n) (1+key*7+2) 5 (xU-2) OM
   grind[gi,az,C.Iu]
 unfold C.MR at hb;exact oO (oO h64 OM _) (lN _) _
structure Hi (D:DS):Prop where
 w:∀p∈D.waits,p.1<2048
 s:∀k,2048<=k->D.sure k=gW 64
theorem AA{D}(h:Hi D)(at_ bs):Hi (bA D at_ bs).1:=by
 unfold bA;split
 ·exact h
 ·split
  ·exact⟨h.w,h.s⟩
  ·refine⟨λp hp=>?_,h.s⟩
   rcases List.mem_append.1 hp with hp|hp
   ·exact h.w p hp
   grind
theorem NG:∀ws s,(∀p∈ws,p.1<2048)->(∀k,2048<=k->s k=gW 64)->∀k,2048<=k->lF s ws k=gW 64
 | [],s,_,hs,k,hk=>hs k hk
 |p::ws,s,hw,hs,k,hk=>by
  refine NG ws (oh s p.1 p.2) (λq hq=>hw q (List.mem_cons_of_mem _ hq)) (λj hj=>?_) k hk;unfold oh;grind
theorem Dl{D}(h:Hi D):Hi (cZ D).1:=by
 unfold cZ;split
 ·exact h
 ·exact⟨λp hp=>by grind,NG _ _ h.w h.s⟩
theorem TE:∀ss {D} at_,Hi D->Hi (fU D at_ ss).1
 | [],D,at_,h=>h
 |s::r,D,at_,h=>by
  unfold fU;split
  ·exact TE r _ (AA h _ _)
  grind[AA]
theorem ahG{D}(h:Hi D)(cnt used b):Hi (bW D cnt used b).1:=by
 grind[bW,Dl,TE]
theorem Dm:∀n {D} at_,Hi D->Hi (ek D at_ n).1
 |0,D,at_,h=>h
 |n+1,D,at_,h=>by
  unfold ek;split
  ·exact Dm n _ h
  ·split
   ·exact Dm n _ (AA h _ _)
   grind[AA]
theorem adU{D}(h:Hi D):Hi (dJ D).2.1:=by
 grind[dJ,Dl,Dm]
theorem aas{ws}(hw:∀p∈ws,p.1<2048)(mask eQ cut){s}(hs:∀k,2048<=k->s k=gW 64):∀j k,2048<=k->Pj ws mask eQ cut s j k=gW 64
 |0,k,hk=>hs k hk
 |j+1,k,hk=>by
  have ih:=aas hw mask eQ cut hs j;unfold Pj;dsimp only;cases e:ws[j]? with
  |none=>grind
  |some p=>
   split
   ·unfold oh;grind
   ·split
    ·unfold oh;grind
    grind
theorem aat{D}(h:Hi D)(mask eQ cut):Hi (nD D mask eQ cut):=⟨λp hp=>(by cases hp),aas h.w _ _ _ h.s _⟩
theorem zq{ws at_}(h:∀p∈ws,p.1≠at_):∀n,oZ ws at_ n=none
 |0=>rfl
 |n+1=>by
  unfold oZ;cases e:ws[n]? with
  |none=>exact zq h n
  |some p=>dsimp only;rw[if_neg (h p (List.mem_of_getElem? e))];exact zq h n
theorem QO{D}(h:Hi D):Ae (dU D):=λk hk=>by
 unfold dU;rw[zq (λp hp=>by have:=h.w p hp;omega),Option.getD_none,h.s k hk]
 grind[gW]
theorem ajW{M:gQ}(h:M.Len):M.W.length<=3000:=by
 have I:=aV;cases M with
 |row w r=>have h2:=ql h.2;grind[gQ.W,afs]
 |kept n=>grind[gQ.W,aft,List.length_nil]
 |news w r=>have h1:=I [2,(w:Int)];have h2:=ql h.2;grind[gQ.W,afu]
 |ask e b=>have h1:=I [3,e];have h3:b.length=2:=h;grind[gQ.W,afv]
 |promise e b h' c=>obtain⟨h5,h6,h7⟩:=h;grind[gQ.W,Tg,List.length_nil]
 |put e b c=>obtain⟨h5,h6⟩:=h;grind[gQ.W,Ti,List.length_nil]
 |taken e b=>have h1:=I [6,e];have h3:b.length=2:=h;grind[gQ.W,afw]
 |view v=>have h3:v.length=7:=h;grind[gQ.W,afx]
 |aZ w v=>have h1:=I [8,(w:Int)];have h3:v.length=7:=h.2;grind[gQ.W,afy]
 |d_ w r=>have h1:=I [9,(w:Int)];have h2:=ql h.2;grind[gQ.W,afz]
abbrev NQ(B:Nat->List (List UInt8)):Prop:=∀i,(B i).length<=8∧∀b∈B i,b.length<=100000
theorem AB{B}(h:NQ B){i q}(hq:q.length<=8∧∀b∈q,b.length<=100000):NQ (gV B i q):=λj=>by
 grind[gV]
theorem adV{f t S}(h:NQ S.B){M}(hM:M.Len):NQ (dS f S t M).B:=by
 unfold dS;split
 all_goals grind[AB,wK,ajW,A.jY,A.ui,A.SC]
structure uS (S:RS):Prop where
 len:bB S
 ep:Ep S
 view:eG S.view
 own:C.wW S.own
 jh:eG S.own
 aT:eG S.aT
 last:eG S.last
 book:C.Bk S.book
 hi:Hi S.D
 net:NQ S.B
section
variable {f:Nat}{In:Nat->gQ->Prop}{n m k:Nat}{S S1 S2:RS}
theorem NH{zs bs w r}(hz:eG zs)(hr:eG r):eG (C.gM zs bs w r):=by
 grind[C.gM,eG.dK]
theorem aau(hin:∀a M,In a M->M.Ok)(h:uS S){v}(hv:VS f In S v):eG v:=by
 cases hv with
 |told a hh=>
  rcases hh with hh|hh
  ·exact(hin _ _ hh).2.2.1
  ·rw[show v=S.view from hh.2];exact h.view
 |aZ a w hh=>
  rcases hh with hh|hh
  ·exact(hin _ _ hh).2.2.2.1
  ·rw[show v=S.view from hh.2.2];exact h.view
 |chosen V a b _ _ _ _ _ e=>grind[NB,uS.view]
theorem NI(h:uS S){x}(hg:Grow f S x):C.wW x∧eG x:=by
 cases hg with
 |more key xU n h1 h2 h3 _ h4 e _ _=>grind[adT,bB.own,uS.len,uS.jh,uS.own]
 |come _ _ _ e=>
  grind[BD,bB.last,uS.len,uS.last,VT,bB.own,uS.jh,C.wW,uS.own]
theorem adW(hin:∀a M,In a M->M.Ok)(h:uS S){a w r}(hh:Hr f In S a (.row w r)):eG r:=by
 rcases hh with hh|hh
 ·exact(hin _ _ hh).2.2.2.1
 ·rw[show r=S.own from hh.2.2];exact h.jh
theorem QP(hin:∀a M,In a M->M.Ok)(h:uS S){a w r}(hh:Hr f In S a (.d_ w r)):eG r:=by
 rcases hh with hh|hh
 ·exact(hin _ _ hh).2.2.2.1
 ·rw[show r=rowAt S.aT w from hh.2.2.2];exact h.aT.sub _ _
theorem FY(hin:∀a M,In a M->M.Ok)(hm:Mv f In n S S1)(h:uS S):uS S1:=by
 obtain⟨hl,he⟩:=afH hm ⟨h.len,h.ep⟩;have hp:∀x,Hi (cK S x).1.D:=λx=>ahG h.hi _ _ _
 cases hm with
 | @out _ t M _ _ hM=>
  have hn:=adV (f:=f) (t:=t) h.net hM;obtain⟨B,e⟩:=qo (f:=f) S t M;rw[e]at hl he hn|-;exact⟨hl,he,h.view,h.own,h.jh,h.aT,h.last,h.book,h.hi,hn⟩
 |fail _ _=>exact⟨hl,he,h.view,h.own,h.jh,h.aT,h.last,h.book,hp _,h.net⟩
 |row _ _ hg _ _=>
  obtain⟨a,b⟩:=NI h hg;exact⟨hl,he,h.view,a,b,h.aT,h.last,h.book,hp _,h.net⟩
 |cz _ hr _=>
  cases hr with
  |cz _ _ _ hh _=>exact⟨hl,he,h.view,h.own,h.jh,NH h.aT (adW hin h hh),h.last,h.book,hp _,h.net⟩
 |aZ _ _=>exact⟨hl,he,h.view,h.own,h.jh,h.aT,h.last,h.book,hp _,h.net⟩
 |qH _ _ _ _=>exact⟨hl,he,h.view,h.own,h.jh,h.aT,h.last,h.book,hp _,h.net⟩
 |BB _ _ _ _ _=>exact⟨hl,he,h.view,h.own,h.jh,h.aT,h.last,h.book,hp _,h.net⟩
 |take _ _ _ _=>exact⟨hl,he,h.view,h.own,h.jh,h.aT,h.last,h.book,hp _,h.net⟩
 |view _ hr _=>
  cases hr with
  |view _ _ _ hs=>exact⟨hl,he,aau hin h hs,h.own,h.jh,h.aT,h.last,h.book,hp _,h.net⟩
 |hear _ _ hh _=>
  refine⟨hl,he,h.view,h.own,h.jh,h.aT,?_,h.book,h.hi,h.net⟩
  grind[uS.last,eG.dK,QP]
 |kept=>exact⟨hl,he,h.view,h.own,h.jh,h.aT,h.last,h.book,h.hi,h.net⟩
 |book hr hh=>
  refine⟨hl,he,h.view,h.own,h.jh,h.aT,h.last,h.book.merge _ _ hr ?_,h.hi,h.net⟩;rcases hh with hh|hh
  ·exact(hin _ _ hh).2.2.2.1
  ·rw[hh.2];exact h.jh
 |idle=>exact⟨hl,he,h.view,h.own,h.jh,h.aT,h.last,h.book,h.hi,h.net⟩
 |done _=>exact⟨hl,he,h.view,h.own,h.jh,h.aT,h.last,h.book,h.hi,h.net⟩
 |vW _ _ _=>exact⟨hl,he,h.view,h.own,h.jh,h.aT,h.last,h.book,h.hi,h.net⟩
 |round _=>exact⟨hl,he,h.view,h.own,h.jh,h.aT,h.last,h.book,h.hi,h.net⟩
 |Nn _ _ _ _=>exact⟨hl,he,h.view,h.own,h.jh,h.aT,h.last,h.book,h.hi,h.net⟩
 |taken _ _=>exact⟨hl,he,h.view,h.own,h.jh,h.aT,h.last,h.book,h.hi,h.net⟩
 |ops=>exact⟨hl,he,h.view,h.own,h.jh,h.aT,h.last,h.book,h.hi,h.net⟩
theorem adX(hin:∀a M,In a M->M.Ok)(hm:kH f In n S S1)(h:uS S):uS S1:=Au (λ_ _ _ h=>FY hin h) hm h
end
end
def laid(S:Int->List UInt8):Nat->Nat->List (List UInt8)->Nat->Nat->Prop
 |cnt,used,[],c,u=>cnt=c∧used=u
 |cnt,used,b::rs,c,u=>b.length<=3000∧(∀p:Nat,p<aP b.length->S ((used:Int)+p)=sw (cnt+1) b p)∧laid S (cnt+1) (used+aP b.length) rs c u
theorem AF{S}:∀rs {cnt used c u},laid S cnt used rs c u->cnt+rs.length=c∧used+rs.length<=u
 | [],cnt,used,c,u,h=>by obtain⟨rfl,rfl⟩:=h;simp
 |b::rs,cnt,used,c,u,h=>by
  have:=AF rs h.2.2
  grind[y9]
theorem pQ{S S'}:∀rs {cnt used c u},laid S cnt used rs c u->(∀k:Int,0<=k->k<u->S' k=S k)->laid S' cnt used rs c u
 | [],cnt,used,c,u,h,_=>h
 |b::rs,cnt,used,c,u,h,he=>by
  have hl:=AF rs h.2.2;refine⟨h.1,λp hp=>?_,pQ rs h.2.2 he⟩;rw[he _ OM OM];exact h.2.1 p hp
theorem I4{S b}:∀rs {cnt used c u},laid S cnt used rs c u->b.length<=3000->(∀p,p<aP b.length->S ((u:Int)+p)=sw (c+1) b p)->laid S cnt used (rs++[b]) (c+1) (u+aP b.length)
 | [],cnt,used,c,u,h,h1,h2=>by obtain⟨rfl,rfl⟩:=h;exact⟨h1,h2,rfl,rfl⟩
 |x::rs,cnt,used,c,u,h,h1,h2=>⟨h.1,h.2.1,I4 rs h.2.2 h1 h2⟩
theorem I5{S}:∀rs {cnt used c u f},laid S cnt used rs c u->jG S ((c:Int)+1) u=none->rs.length<f->c<4294967294->kL S f cnt used=(rs,c,u)
 | [],cnt,used,c,u,f+1,h,hn,_,_=>by obtain⟨rfl,rfl⟩:=h;rw[kL,hn]
 |b::rs,cnt,used,c,u,f+1,h,hn,hf,hc=>by
  have hl:=AF rs h.2.2;have ih:=I5 rs (f:=f) h.2.2 hn (by grind) hc;have hs:=PT (n:=cnt+1) (u:=(used:Int)) OM h.1 h.2.1
  grind[kL.eq_2]
theorem vH{P:List UInt8->Prop}{ws S k mask eQ cut}(hw:∀p∈ws,p.1=k->P p.2∧∀o,P o->P (p.2.take cut++o.drop cut))(hS:P (S k)):∀j,P (Pj ws mask eQ cut S j k)
 |0=>hS
 |j+1=>by
  have ih:=vH (mask:=mask) (eQ:=eQ) hw hS j;rw[Pj];rcases hp:ws[j]? with _|p
  ·exact ih
  ·have hm:=List.mem_of_getElem? hp
   by_cases e:k=p.1
   ·have h2:=hw p hm e.symm
    split
    ·simp_all[oh.eq_1]
    ·split
     all_goals simp_all[oh.eq_1]
   ·split
    ·simp_all[oh.eq_1]
    ·split
     all_goals simp_all[oh.eq_1]
theorem kg{P:List UInt8->Prop}{k}:∀ws S,(∀p∈ws,p.1=k->P p.2)->P (S k)->P (lF S ws k)
 | [],S,_,h=>h
 |p::ws,S,hw,h=>by
  refine kg ws _ (λq hq=>hw q (List.mem_cons_of_mem _ hq)) ?_
  grind[oh]
theorem I6{k c}:∀ws S,(∀p∈ws,p.1=k->p.2=c)->(∃p∈ws,p.1=k)->lF S ws k=c
 | [],S,_,h=>by grind
 |p::ws,S,hw,h=>by
  by_cases e:p.1=k
  ·refine kg (P:=(· =c)) ws _ (λq hq=>hw q (List.mem_cons_of_mem _ hq)) ?_
   simp_all[oh.eq_1]
  ·refine I6 ws _ (λq hq=>hw q (List.mem_cons_of_mem _ hq)) ?_
   grind
theorem I7(ws p k):∀n,n<=ws.length->oZ (ws++[p]) k n=oZ ws k n
 |0,_=>rfl
 |n+1,h=>by
  rw[oZ,oZ,I7 ws p k n OM,List.getElem?_append_left OM]
theorem V8{D p k}:dU {D with waits:=D.waits++[p]} k=if p.1=k then p.2 else dU D k:=by
 unfold dU;rw[List.length_append,List.length_singleton,oZ,List.getElem?_append_right (Nat.le_refl _),Nat.sub_self];simp only[List.getElem?_cons_zero]
 split
 all_goals simp_all[I7]
theorem FZ:∀n ws (D:DS) k,ws.length=n->D.waits=[]->dU {D with waits:=ws} k=lF D.sure ws k
 |0,ws,D,k,hn,h=>by rw[List.eq_nil_of_length_eq_zero hn];rfl
 |n+1,ws,D,k,hn,h=>by
  rcases List.eq_nil_or_concat ws with rfl| ⟨l,p,rfl⟩
  ·cases hn
  ·rw[List.concat_eq_append]at hn|-
   have ih:=FZ n l D k (by grind) h;have:=V8 (D:={D with waits:=l}) (p:=p) (k:=k);rw[this,ih];unfold lF;rw[List.foldl_append,List.foldl_cons,List.foldl_nil,oh]
   grind
theorem pR(D k):dU D k=lF D.sure D.waits k:=FZ _ D.waits {D with waits:=[]} k rfl rfl
theorem aav{s}(h:s.length=64):pad s=s:=by
 simp_all[pad,gW]
structure Wr (D D':DS) (Z:Int×List UInt8->Prop):Prop where
 sure:D'.sure=D.sure
 waits:∃zs,D'.waits=D.waits++zs∧∀p∈zs,Z p
theorem Wr.refl(D Z):Wr D D Z:=⟨rfl,[],by simp,λp h=>by cases h⟩
theorem Wr.trans{D D1 D2 Z}(h:Wr D D1 Z)(h2:Wr D1 D2 Z):Wr D D2 Z:=by
 obtain⟨a,e1,h1⟩:=h.waits;obtain⟨b,e2,h3⟩:=h2.waits;exact⟨h2.sure.trans h.sure,a++b,by grind,λp hp=>(List.mem_append.1 hp).elim (h1 p) (h3 p)⟩
theorem Wr.mono{D D' Z Y}(h:Wr D D' Z)(hz:∀p,Z p->Y p):Wr D D' Y:=by
 obtain⟨a,e1,h1⟩:=h.waits;exact⟨h.sure,a,e1,λp hp=>hz p (h1 p hp)⟩
theorem NJ{D at_ bs}(h0:0<=at_)(h1:at_<2048)(hl:bs.length<=64):((bA D at_ bs).2=0∧(bA D at_ bs).1.down=false∧(bA D at_ bs).1.waits=D.waits++[(at_,pad bs)]∧(bA D at_ bs).1.sure=D.sure)∨((bA D at_ bs).2≠0∧(bA D at_ bs).1={D with down:=true}):=by
 unfold bA
 grind
theorem QQ{D}(hd:D.down=true){at_ bs}(h0:0<=at_)(h1:at_<2048)(hl:bs.length<=64):(bA D at_ bs).2≠0∧(bA D at_ bs).1=D:=by
 unfold bA;cases D;grind
theorem KQ:∀n {D} at_,at_+n<=2048->Wr D (ek D at_ n).1 (λp=>(at_:Int)<=p.1∧p.2=gW 64)∧
  ((ek D at_ n).2=0->∀k,(at_:Int)<=k->k<at_+n->dU (ek D at_ n).1 k=gW 64)∧((ek D at_ n).2=0->(ek D at_ n).1.down=D.down∨(ek D at_ n).1.down=false)∧((ek D at_ n).2≠0->(ek D at_ n).1.down=true)
 |0,D,at_,_=>⟨Wr.refl _ _,λ_ k h1 h2=>by omega,λ_=> .inl rfl,λh=>absurd rfl h⟩
 |n+1,D,at_,h=>by
  rw[ek];by_cases hz:dU D at_=gW 64
  ·rw[if_pos hz]
   have ih:=KQ n (D:=D) (at_+1) OM;refine⟨ih.1.mono λp hp=>⟨by omega,hp.2⟩,λhe k h1 h2=>?_,ih.2.2⟩;by_cases e:k=at_
   ·subst e
    obtain⟨zs,e1,e2⟩:=ih.1.waits;rw[pR,e1,ih.1.sure];show(D.waits++zs).foldl (λ(S:Int->List UInt8) (p:Int×List UInt8)=>oh S p.1 p.2) D.sure at_=gW 64;rw[List.foldl_append];exact kg (P:=(· =gW 64)) zs _ (λp hp _=>(e2 p hp).2) (by rw[pR]at hz;exact hz)
   grind
  ·rw[if_neg hz]
   rcases NJ (D:=D) (at_:=(at_:Int)) (bs:=[]) OM OM DC with⟨a1,a2,a3,a4⟩ | ⟨a1,a2⟩
   ·rw[if_pos a1]
    have w1:Wr D (bA D at_ []).1 (λp=>(at_:Int)<=p.1∧p.2=gW 64):=⟨a4,[(at_,pad [])],a3,λp hp=>by rw[List.mem_singleton.1 hp];exact⟨Int.le_refl _,rfl⟩⟩;have ih:=KQ n (D:=(bA D at_ []).1) (at_+1) OM;refine⟨w1.trans (ih.1.mono λp hp=>⟨by omega,hp.2⟩),λhe k h1 h2=>?_,λhe=> .inr ?_,ih.2.2.2⟩
    ·by_cases e:k=at_
     ·subst e
      obtain⟨zs,e1,e2⟩:=ih.1.waits;rw[pR,e1,ih.1.sure];show(_++zs).foldl (λ(S:Int->List UInt8) (p:Int×List UInt8)=>oh S p.1 p.2) _ at_=gW 64;rw[List.foldl_append];refine kg (P:=(· =gW 64)) zs _ (λp hp _=>(e2 p hp).2) ?_;rw[a3];show(D.waits++[_]).foldl (λ(S:Int->List UInt8) (p:Int×List UInt8)=>oh S p.1 p.2) _ at_=gW 64
      simp_all[pad,oh.eq_1]
     grind
    grind
   ·rw[if_neg a1,a2]
    refine⟨⟨rfl,[],by simp,λp hp=>by cases hp⟩,λhe=>absurd he a1,λhe=>absurd he a1,λ_=>rfl⟩
theorem TF:∀(ss:List (List UInt8)) {D} at_,at_+ss.length<=2048->(∀s∈ss,s.length=64)->∃k,k<=ss.length∧(fU D at_ ss).1.sure=D.sure∧(fU D at_ ss).1.waits=D.waits++((ss.take k).zipIdx.map λx=>((at_:Int)+x.2,x.1))∧
  ((fU D at_ ss).2=0->k=ss.length∧(ss≠[]->(fU D at_ ss).1.down=false))∧((fU D at_ ss).2≠0->k<ss.length∧(fU D at_ ss).1.down=true)
 | [],D,at_,_,_=>⟨0,Nat.le_refl _,rfl,by simp[fU],λ_=>⟨rfl,λh=>absurd rfl h⟩,λh=>absurd rfl h⟩
 |s::ss,D,at_,h,h64=>by
  simp only[List.length_cons]at h;rw[fU];rcases NJ (D:=D) (at_:=(at_:Int)) (bs:=s) OM OM (by grind)with⟨a1,a2,a3,a4⟩ | ⟨a1,a2⟩
  ·rw[if_pos a1]
   obtain⟨k,hk,e1,e2,e3,e4⟩:=TF ss (D:=(bA D at_ s).1) (at_+1) OM (λx hx=>h64 x (List.mem_cons_of_mem _ hx));rw[show((at_+1:Nat):Int)=(at_:Int)+1 by omega]at e1 e2 e3 e4;refine⟨k+1,by grind,e1.trans a4,?_,λhe=>⟨by grind,λ_=>?_⟩,λhe=>⟨by grind,(e4 he).2⟩⟩
   ·rw[e2,a3,aav (h64 s SI),List.append_assoc]
    rw[List.take_succ_cons,List.zipIdx_cons,List.map_cons,List.zipIdx_succ]
    ·simp
     omega
   ·rcases ss with _| ⟨s2,ss⟩
    ·exact a2
    grind
  ·rw[if_neg a1,a2]
   exact⟨0,by simp,rfl,by simp,λhe=>absurd he a1,λ_=>⟨by simp,rfl⟩⟩
def Clean(D:DS)(u:Nat):Prop:=D.waits=[]∧D.down=false∧∀k:Int,(u:Int)<=k->D.sure k=gW 64
def Half(D:DS)(c u:Nat):Prop:=D.down=true∧(∀k:Int,(u:Int)<=k->D.sure k=gW 64)∧∃R k,k<aP R.length∧R.length<=3000∧∀x∈D.waits,∃p:Nat,p<k∧x=((u:Int)+p,sw (c+1) R p)
def TG(S:Int->List UInt8)(c u:Nat):Prop:=∃R k,k<aP R.length∧R.length<=3000∧(∀p:Nat,p<k->Mid (sw (c+1) R p) (S ((u:Int)+p)))∧∀j:Int,(u:Int)+k<=j->S j=gW 64
structure tO (D:DS) (rs:List (List UInt8)) (c u:Nat):Prop where
 ld:laid D.sure 0 0 rs c u
 le:u<=2048
 st:Clean D u∨Half D c u
def BF(D:DS)(rs:List (List UInt8)):Prop:=∃c u,laid D.sure 0 0 rs c u∧u<=2048∧(D.waits=[]∨D.down=true)∧(∀x∈D.waits,(u:Int)<=x.1∧x.2=gW 64)∧TG D.sure c u
section
variable {D:DS}{rs:List (List UInt8)}{c u:Nat}
theorem vI{S}(h:∀k,(u:Int)<=k->S k=gW 64):TG S c u:=⟨[],0,by decide,by decide,λp hp=>by omega,λj hj=>h j OM⟩
theorem xf(n b m):(dB n b m).length=m:=by simp[dB]
theorem F3{n b m k x}{at_:Int}(h:x∈((dB n b m).take k).zipIdx.map λx=>(at_+x.2,x.1)):∃p,p<k∧p<m∧x=(at_+p,sw n b p):=by
 grind[dB]
theorem QR{n b m p}{at_:Int}(hp:p<m):(at_+(p:Int),sw n b p)∈((dB n b m).take m).zipIdx.map λx=>(at_+x.2,x.1):=by
 refine List.mem_map.2 ⟨(sw n b p,p),List.mem_zipIdx_iff_getElem?.2 ?_,rfl⟩
 grind[dB]
theorem ahH(h:tO D rs c u)(b):((bW D c u b).2.2.2=0->tO (bW D c u b).1 (rs++[b]) (bW D c u b).2.1 (bW D c u b).2.2.1)∧((bW D c u b).2.2.2≠0->tO (bW D c u b).1 rs (bW D c u b).2.1 (bW D c u b).2.2.1):=by
 unfold bW;by_cases h1:3000<b.length
 ·grind
 rw[if_neg h1];by_cases h2:2048- (u:Int) <aP b.length
 ·grind
 rw[if_neg h2];have WS:=y9 b.length;have hne:dB (c+1) b (aP b.length)≠[]:=λe=>by grind[xf]
 have h64:∀s∈dB (c+1) b (aP b.length),s.length=64:=λs hs=>by
  obtain⟨p,_,rfl⟩:=List.mem_map.1 hs
  grind[J7]
 rcases h.st with hc|hh
 ·obtain⟨k,hk,e1,e2,e3,e4⟩:=TF (dB (c+1) b (aP b.length)) (D:=D) u (by grind[xf]) h64
  rw[xf]at hk e3 e4;rw[hc.1,List.nil_append]at e2;by_cases h0:(fU D u (dB (c+1) b (aP b.length))).2=0
  ·rw[if_pos h0]
   obtain⟨rfl,hd⟩:=e3 h0;have hd:=hd hne;have hs:cZ (fU D u (dB (c+1) b (aP b.length))).1=({(fU D u (dB (c+1) b (aP b.length))).1 with sure:=lF D.sure (((dB (c+1) b (aP b.length)).take (aP b.length)).zipIdx.map λx=>((u:Int)+x.2,x.1)),waits:=[]},0):=by
    simp_all[cZ]
   rw[hs];rw[if_pos rfl];dsimp only;refine⟨λ_=>?_,λhe=>absurd rfl he⟩;refine⟨I4 rs (pQ rs h.ld λk h0 h1=>?_) OM (λp hp=>?_),by omega,.inl ⟨rfl,hd,λk hk=>?_⟩⟩
   ·refine kg (P:=(· =D.sure k)) _ _ (λx hx he=>?_) rfl
    grind
   ·refine I6 _ _ (λx hx he=>?_) ⟨_,QR hp,rfl⟩
    obtain⟨q,_,_,rfl⟩:=F3 hx
    grind
   ·refine kg (P:=(· =gW 64)) _ _ (λx hx he=>?_) (hc.2.2 k OM)
    grind
  ·rw[if_neg h0]
   refine⟨λhe=>absurd he h0,λ_=>?_⟩;obtain⟨hk2,hd⟩:=e4 h0;refine⟨by grind[tO.ld],h.le,.inr ⟨hd,by rw[e1];exact hc.2.2,b,k,hk2,by omega,λx hx=>?_⟩⟩;rw[e2]at hx;obtain⟨p,hp,_,e⟩:=F3 hx
   grind
 ·rcases hs:dB (c+1) b (aP b.length)with _| ⟨s,r⟩
  ·grind
  ·have hw:=QQ hh.1 (at_:=(u:Int)) (bs:=s) OM OM (by grind)
   simp_all[fU.eq_2]
theorem QT(cut):Ey cut<=64:=by grind[Ey]
theorem NK(h:tO D rs c u)(mask eQ cut):BF (nD D mask eQ cut) rs:=by
 have hlow:∀k:Int,k<u->(∀x∈D.waits,(u:Int)<=x.1)->Pj D.waits mask eQ (Ey cut) D.sure D.waits.length k=D.sure k:=λk hk hx=>
  vH (P:=(· =D.sure k)) (λx hx' he=>by grind) rfl _
 rcases h.st with hc|hh
 ·refine⟨c,u,pQ rs h.ld λk _ h1=>hlow k h1 (λx hx=>(by rw[hc.1]at hx;cases hx)),h.le,.inl rfl,λx hx=>(by cases hx),vI λk hk=>?_⟩
  show Pj D.waits mask eQ (Ey cut) D.sure D.waits.length k=gW 64;rw[hc.1];exact hc.2.2 k hk
 ·obtain⟨hd,hz,R,k,hk,hR,hw⟩:=hh
  refine⟨c,u,pQ rs h.ld λj _ h1=>hlow j h1 λx hx=>?_,h.le,.inl rfl,λx hx=>(by cases hx),R,k,hk,hR,λp hp=>?_,λj hj=>?_⟩
  ·grind
  ·refine(vH (P:=J8 (sw (c+1) R p)) (λx hx he=>?_) ?_ _).mid
   all_goals grind[U4,J7,YC,QT,EJ]
  ·refine vH (P:=(· =gW 64)) (λx hx he=>?_) (hz j OM) _
   grind
theorem adY{q}(hq:q<=64):(gW 64).take q++(gW 64).drop q=gW 64:=by simp_all
theorem Ct(h:BF D rs)(mask eQ cut):BF (nD D mask eQ cut) rs:=by
 obtain⟨c,u,hl,hu,_,hw,R,k,hk,hR,hm,hz⟩:=h;refine⟨c,u,pQ rs hl λj _ h1=>?_,hu,.inl rfl,λx hx=>(by cases hx),R,k,hk,hR,λp hp=>?_,λj hj=>?_⟩
 ·exact vH (P:=(· =D.sure j)) (λx hx' he=>by grind) rfl _
 ·refine vH (P:=Mid (sw (c+1) R p)) (λx hx he=>?_) (hm p hp) _
  grind[EJ,J8.mid,acZ,QT]
 ·refine vH (P:=(· =gW 64)) (λx hx he=>?_) (hz j hj) _
  grind[adY,QT]
theorem TH{S}(hl:laid S 0 0 rs c u)(hu:u<=2048)(ht:TG S c u):kL S 2049 0 0=(rs,c,u):=by
 have hle:=AF rs hl;obtain⟨R,k,hk,hR,hm,hz⟩:=ht;have hs:=Mx (S:=S) (n:=c+1) (u:=(u:Int)) (k:=k) OM OM hR hk hm (hz _ OM)
 grind[I5]
theorem TI(h:BF D rs)(hH:Hi D):(∀r,(dJ D).1=some r->r.1=rs∧tO (dJ D).2.1 rs r.2.1 r.2.2)∧BF (dJ D).2.1 rs:=by
 obtain⟨c,u,hl,hu,hst,hw,ht⟩:=h;have hrd:∀k:Int,k<u->dU D k=D.sure k:=λk hk=>by
  rw[pR];exact kg (P:=(· =D.sure k)) _ _ (λx hx he=>by grind) rfl
 have htr:TG (dU D) c u:=by
  obtain⟨R,k,hk,hR,hm,hz⟩:=ht;refine⟨R,k,hk,hR,λp hp=>?_,λj hj=>?_⟩
  ·rw[pR]
   exact kg (P:=Mid (sw (c+1) R p)) _ _ (λx hx he=>by grind[EJ,J8.mid]) (hm p hp)
  ·rw[pR]
   exact kg (P:=(· =gW 64)) _ _ (λx hx he=>(hw x hx).2) (hz j hj)
 have hr:=TH (pQ rs hl λk _ h1=>hrd k h1) hu htr;unfold dJ;rw[hr];have hwp:=KQ (2048-u) (D:=D) u OM;have hHw:=Dm (2048-u) (D:=D) u hH;obtain⟨w1,w2,w3,w4⟩:=hwp;obtain⟨zs,e1,e2⟩:=w1.waits;have hwd:∀x∈(ek D u (2048-u)).1.waits,(u:Int)<=x.1∧x.2=gW 64:=λx hx=>by
  grind
 have hdn:(ek D u (2048-u)).1.down=true->BF (ek D u (2048-u)).1 rs:=λhd=>
  ⟨c,u,by grind[Wr.sure],hu,.inr hd,hwd,by grind[Wr.sure]⟩
 by_cases h0:(ek D u (2048-u)).2=0
 ·rw[if_pos h0]
  unfold cZ;by_cases hd:(ek D u (2048-u)).1.down=true
  ·grind
  ·rw[if_neg hd]
   have hz:∀k:Int,(u:Int)<=k->lF (ek D u (2048-u)).1.sure (ek D u (2048-u)).1.waits k=gW 64:=λk hk=>by
    by_cases h2:k<2048
    ·grind[pR]
    ·exact kg (P:=(· =gW 64)) _ _ (λx hx he=>(hwd x hx).2) (hHw.s k OM)
   have hl2:laid (lF (ek D u (2048-u)).1.sure (ek D u (2048-u)).1.waits) 0 0 rs c u:=pQ rs hl λk _ h1=>by
    rw[<-w1.sure];exact kg (P:=(· =(ek D u (2048-u)).1.sure k)) _ _ (λx hx he=>by grind) rfl
   refine⟨λr hr=>?_,c,u,hl2,hu,.inl rfl,λx hx=>(by cases hx),vI hz⟩;cases hr;exact⟨rfl,hl2,hu,.inl ⟨rfl,by grind,hz⟩⟩
 grind
end
theorem I8{c}(hl:c.length=28)(h:C.nG c=true):∀i,i<28->0<=gi c i∧gi c i<=1099511627776:=λi hi=>by
 have h1:=(C.jZ _ 4).1 h (i/7) OM;have h1:C.uA (sub c (i/7*7) 7)=true:=h1;obtain⟨a,b,d,_⟩:=(C.xL _).1 h1;have e:gi c i=gi (sub c (i/7*7) 7) (i%7):=by grind[gy]
 rw[e];rcases Nat.lt_or_ge (i%7) 2 with h2|h2
 ·rcases(show i%7=0∨i%7=1 by omega)with h3|h3
  ·rw[h3];exact a
  ·rw[h3];exact b
 ·have e2:gi (sub c (i/7*7) 7) (i%7)=gi (sub (sub c (i/7*7) 7) 2 5) (i%7-2):=by grind[gy]
  rw[e2];exact d _ (C.zb _ _ (by grind[az]))
def mf(r:List Int):List Nat:=r.map Int.toNat
theorem aaw{r i x}(h:r[i]? =some x):x=gi r i:=by grind[gi]
theorem Df{r}(h:∀i,0<=gi r i):nn (mf r)=r:=by
 unfold nn mf;rw[List.map_map];apply List.ext_getElem?;intro i;rw[List.getElem?_map];cases hi:r[i]? with
 |none=>rfl
 |some x=>have:=h i;grind[aaw]
theorem AJ{r i n}(h:(mf r)[i]? =some n):n=(gi r i).toNat:=by
 grind[mf,aaw]
theorem NL{r o n}{P:Nat->Prop}(h:∀i,o<=i->i<o+n->P (gi r i).toNat):∀x∈((mf r).drop o).take n,P x:=λx hx=>by
 obtain⟨i,hi⟩:=List.mem_iff_getElem?.1 hx;have hlt:i<n:=by
  grind
 rw[List.getElem?_take_of_lt hlt,List.getElem?_drop]at hi;rw[AJ hi]
 grind
theorem I9{r}(hl:r.length=174)(h:C.jm r=true):∀i,i<28->0<=gi r (1+i)∧gi r (1+i)<=1099511627776:=λi hi=>by
 obtain⟨_,h2,_⟩:=C.pY h;have:=I8 (C.nP r hl) h2 i hi
 grind[C.cellsOf.eq_1,gy]
theorem F4{r}(hl:r.length=174)(h:C.jm r=true){i}(hi:i<5):0<=gi r (29+i)∧(0<gi r (29+i)∨sub r (34+i*28) 28=au 28)∧∀j,j<28->0<=gi r (34+i*28+j)∧gi r (34+i*28+j)<=1099511627776:=by
 obtain⟨_,_,h3⟩:=C.pY h;obtain⟨a,b,c⟩:=C.wV (h3 i hi);rw[C.l7 r i hi]at b c;refine⟨a,b,λj hj=>?_⟩;have:=I8 (by grind[az]) c j hj
 grind[gy]
theorem adZ{r}(hl:r.length=174)(h:C.jm r=true)(i):0<=gi r i:=by
 rcases Nat.lt_or_ge i 174 with hi|hi
 ·rcases Nat.eq_zero_or_pos i with rfl|h0
  ·exact(C.pY h).1
  ·rcases Nat.lt_or_ge i 29 with h1|h1
   ·have:=(I9 hl h (i-1) OM).1
    grind
   ·rcases Nat.lt_or_ge i 34 with h2|h2
    ·have:=(F4 hl h (i:=i-29) OM).1
     grind
    ·have:=((F4 hl h (i:=(i-34) /28) OM).2.2 ((i-34) %28) OM).1
     grind
 simp_all[gi]
theorem good_row{r}(hl:r.length=174)(hr:C.jm r=true)(h64:∀i,gi r i<=9223372036854775807):∀k,k<=5->Tf (((mf r).drop (34-k)).take k) ((mf r).drop (174-k*28))
 |0,_=>by
  have:(mf r).length=174:=by simp[mf,hl]
  show(mf r).drop (174-0*28)=[]
  grind
 |k+1,hk=>by
  have hn:(mf r).length=174:=by simp[mf,hl]
  have ih:=good_row hl hr h64 k OM;have hlf:=F4 hl hr (i:=5- (k+1)) OM;have hd:(mf r).drop (34- (k+1))=(gi r (34- (k+1))).toNat::(mf r).drop (34-k):=by
   rw[List.drop_eq_getElem_cons OM];congr 1
   ·exact AJ (List.getElem?_eq_getElem _)
   grind
  rw[hd,List.take_succ_cons];refine⟨?_,?_,?_,λh0=>?_,?_⟩
  ·grind
  ·grind
  ·refine NL (P:=λx=>x<GX) λi h1 h2=>?_
   have:=hlf.2.2 (i- (34+(5- (k+1))*28)) OM
   grind[GX]
  ·rcases hlf.2.1 with h3|h3
   ·grind
   ·have e:((mf r).drop (174- (k+1)*28)).take 28=mf (sub r (34+(5- (k+1))*28) 28):=by
     grind[mf,sub,List.map_drop,List.map_take]
    rw[e,h3];rfl
  grind[List.drop_drop]
theorem F5{r}(h:mX r)(tl):jl (dM r++tl)=some (mf r,tl):=by
 obtain⟨hl,hr,h64,h0⟩:=h;have hn:(mf r).length=174:=by simp[mf,hl]
 have hlt:∀z∈mf r,z<9223372036854775808:=λz hz=>by
  obtain⟨i,hi⟩:=List.mem_iff_getElem?.1 hz;rw[AJ hi]
  grind
 have e:dM r=Vz (mf r):=by
  grind[adw,Df]
 rw[e];refine agN hn (λn hn=>hlt n (List.mem_of_mem_take hn)) ?_ ?_ tl
 ·refine NL (P:=λx=>x<GX) λi h1 h2=>?_
  have:=I9 hl hr (i-1) OM
  grind[GX]
 ·exact good_row hl hr (λi=>(h64 i).2) 5 OM
theorem F6(z zs):ah (z::zs)=oU (u64 z)++ah zs:=by simp[ah,jH]
theorem ajX{n:Nat}(h:n<10):u64 (n:Int)=n:=Kk OM
theorem iG{n lim}(h:n<lim)(hl:lim<=10)(zs tl):iI lim (ah ((n:Int)::zs)++tl)=some (n,ah zs++tl):=by
 grind[F6,ajX,afr]
theorem aax{r}(h:mX r):nI (Rec.row r).W=some (.row r):=by
 have h1:=iG (n:=0) (lim:=6) OM OM [] (dM r);have h1:iI 6 (Rec.row r).W=some (0,dM r):=h1;have h2:=F5 h [];rw[List.append_nil]at h2;unfold nI;rw[h1];exact W60
theorem NN{w r}(hw:w<5)(h:mX r):nI (Rec.cz w r).W=some (.cz w r):=by
 have h1:=iG (n:=1) (lim:=6) OM OM [(w:Int)] (dM r);have h1:iI 6 (Rec.cz w r).W=some (1,ah [(w:Int)]++dM r):=h1;have h3:=iG (n:=w) (lim:=5) hw OM [] (dM r);have h3:iI 5 (ah [(w:Int)]++dM r)=some (w,dM r):=by grind[ah,jH]
 have h2:=F5 h [];rw[List.append_nil]at h2;unfold nI;rw[h1];simp only[Option.bind_some];rw[h3];exact W60
theorem V9{w}(hw:w<5):nI (Rec.aZ w).W=some (.aZ w):=by
 have h1:=iG (n:=2) (lim:=6) OM OM [(w:Int)] [];have h1:iI 6 (Rec.aZ w).W=some (2,ah [(w:Int)]):=by rw[List.append_nil,List.append_nil]at h1;exact h1
 have h3:=iG (n:=w) (lim:=5) hw OM [] [];have h3:iI 5 (ah [(w:Int)])=some (w,[]):=by grind[ah,jH]
 unfold nI;rw[h1];simp only[Option.bind_some];rw[h3];rfl
def Rec.tag:Rec->Nat
 | .row _=>0| .cz _ _=>1| .aZ _=>2| .qH _ _=>3| .take _ _ _=>4| .view _=>5
def gQ.tag:gQ->Nat
 | .row _ _=>0| .kept _=>1| .news _ _=>2| .ask _ _=>3| .promise _ _ _ _=>4| .put _ _ _=>5| .taken _ _=>6| .view _=>7| .aZ _ _=>8| .d_ _ _=>9
theorem rW{α}{x y:α}{b cs}(h:pE x b cs=some y):x=y:=by grind[pE]
theorem aay{bs x k cs}(h:nI bs=some x)(hk:iI 6 bs=some (k,cs)):x.tag=k:=by
 unfold nI at h;rw[hk]at h;simp only[Option.bind_some]at h
 split at h
 all_goals first
  | (simp only[Option.bind_eq_some_iff]at h;first| (obtain⟨_,_,_,_,_,_,h⟩:=h;rw[<-rW h];rfl) | (obtain⟨_,_,_,_,h⟩:=h;rw[<-rW h];rfl) | (obtain⟨_,_,h⟩:=h;rw[<-rW h];rfl))
  |cases h
theorem aaz{bs x k cs}(h:lZ bs=some x)(hk:iI 10 bs=some (k,cs)):x.tag=k:=by
 unfold lZ at h;rw[hk]at h;simp only[Option.bind_some]at h
 split at h
 all_goals first
  | (simp only[Option.bind_eq_some_iff]at h;first| (obtain⟨_,_,_,_,_,_,_,_,h⟩:=h;rw[<-rW h];rfl) | (obtain⟨_,_,_,_,_,_,h⟩:=h;rw[<-rW h];rfl) | (obtain⟨_,_,_,_,h⟩:=h;rw[<-rW h];rfl) | (obtain⟨_,_,h⟩:=h;rw[<-rW h];rfl))
  |cases h
theorem ad1(x:Rec):∃cs,iI 6 x.W=some (x.tag,cs):=by
 cases x with
 |row r=>exact⟨_,iG (n:=0) (lim:=6) OM OM [] (dM r)⟩
 |cz w r=>exact⟨_,iG (n:=1) (lim:=6) OM OM [(w:Int)] (dM r)⟩
 |aZ w=>
  have h:=iG (n:=2) (lim:=6) OM OM [(w:Int)] [];rw[List.append_nil]at h;exact⟨_,h⟩
 |qH e b=>exact⟨_,iG (n:=3) (lim:=6) OM OM [e] _⟩
 |take e b c=>
  have h:=iG (n:=4) (lim:=6) OM OM [e] (ah b++ah c);rw[<-List.append_assoc]at h;exact⟨_,h⟩
 |view v=>exact⟨_,iG (n:=5) (lim:=6) OM OM [] _⟩
theorem I_{x y:Rec}(h:nI x.W=some y):y.tag=x.tag:=by
 obtain⟨cs,hk⟩:=ad1 x
 grind[aay]
theorem qA(w0 X Y S)(hI:Inv (aj X Y S).own w0 w0 [aj X Y S])(op er va)(hn:S.aX.length<=1000000000):
  Calls prog 69 #[.pointer (some ⟨X.b,0,none⟩),.int .i64 op,.int .i64 er,.int .i64 va] w0 λe w'=>∃Y',e=.returned (.tuple #[])∧Inv (aj X Y S).own w0 w' [aj X Y' (di S op er va)]:=by
 refine(aea w0 X.f X.b X.l Y.vb Y.rc Y.ra S _ op er va hn hI).mono ?_;rintro e w' ⟨ra',rc',rfl,hJ⟩;exact⟨{Y with ra:=ra',rc:=rc'},rfl,hJ⟩
section
variable (w0:World)(X:RX)(Y:RY)(S:RS)(hX:Bd X)
include hX
theorem xk(hI:Inv (aj X Y S).own w0 w0 [aj X Y S])(x)(hx:x.length=174):Calls prog 82 #[.pointer (some ⟨X.b,0,none⟩),oV X,ia x] w0 λe w'=>∃Y' B',e=.returned (.tuple #[])∧Hid (fV X.f S x={S with B:=B'})∧Inv (aj X Y S).own w0 w' [aj X Y' {S with B:=B'}]:=Qs w0 X Y S hX x hx hI
theorem Wv(hvw:Hid (eG S.view))(hrl:S.aX.length<=1000000000)(hI:Inv (aj X Y S).own w0 w0 [aj X Y S]):
  Calls prog 154 #[.pointer (some ⟨X.b,0,none⟩),oV X] w0 λe w'=>∃Y',e=.returned (.tuple #[])∧Inv (aj X Y S).own w0 w' [aj X Y' (lL X.f S)]:=by
 have hown:=(aS hI aC).own;cases hwt:decide (0<S.waits)
 ·have hF:Hid (lL X.f S=j6 X.f (fV X.f {S with busy:=false,book:=C.iV S.book (X.f:Int) S.own} S.own)):=HD (by
   rw[lL];dsimp only;rw[if_neg (by simpa using hwt)])
  go_enter func154,ntmps154;go_upto_region 1 with(refine YS ?_;intro w hI)
  refine ZT [11] 12 hI ?_;intro wd hI
  (repeat(refine ZQ ?_;go_wp2_with(first|go_at_call 48;refine KE (Kr hI (X.f:Int) S.own hown jR) ?_;intro w1 hI|refine YL ?_);refine ZP ?_))
  go_wp2_with(first|refine YL ?_|go_at_call 82;refine KJ hI (xk _ X _ _ hX (hI.at_ aC) S.own hown) ?_;intro Y2 B2 w1 hB2 hI|go_at_call 79;refine KJ hI (zU _ X _ _ hX (hI.at_ aC) _ hvw RF) ?_;intro Y3 S3 w1 hS3 hI);rw[hF.out,hB2.out,hS3.out];exact⟨rfl,_,h_ KF _ _,Y3,rfl,hI⟩
 ·have hF:Hid (lL X.f S=j6 X.f (fV X.f {di {S with busy:=false,book:=C.iV S.book (X.f:Int) S.own} S.waits 0 0 with waits:=0} S.own)):=HD (by
   rw[lL];dsimp only;rw[if_pos (by simpa using hwt)])
  go_enter func154,ntmps154;go_upto_region 1 with(refine YS ?_;intro w hI)
  refine ZT [11] 12 hI ?_;intro wd hI
  (repeat(refine ZQ ?_;go_wp2_with(first|go_at_call 48;refine KE (Kr hI (X.f:Int) S.own hown jR) ?_;intro w1 hI|refine YL ?_);refine ZP ?_))
  go_wp2_with(first|refine YL ?_|refine YS ?_;intro w hI|go_at_call 69;refine KG hI (qA _ X _ _ (hI.at_ aC) _ _ _ (by with_unfolding_all exact hrl)) ?_;intro Y1 w1 hI;dsimp only[di]at hI|go_at_call 82;refine KJ hI (xk _ X _ _ hX (hI.at_ aC) S.own hown) ?_;intro Y2 B2 w1 hB2 hI|go_at_call 79;refine KJ hI (zU _ X _ _ hX (hI.at_ aC) _ hvw RF) ?_;intro Y3 S3 w1 hS3 hI);rw[hF.out];have e1:=hB2.out;have e2:=hS3.out;dsimp only[di]at e1 e2|-;rw[e1,e2];exact⟨rfl,_,h_ KF _ _,Y3,rfl,hI⟩
theorem Q8(hI:Inv (aj X Y S).own w0 w0 [aj X Y S])(V)(hvw:Hid (eG V))(hV:S.view=V)(hrl:S.aX.length<=1000000000):
  Calls prog 154 #[.pointer (some ⟨X.b,0,none⟩),oV X] w0 λe w'=>∃Y' S',e=.returned (.tuple #[])∧Hid (lL X.f S=S')∧Inv (aj X Y S).own w0 w' [aj X Y' S']:=by
 grind[Wv,Go.Calls.mono,Go.Lib.hid]
theorem ah0(k:Nat)(hk5:k<5)(z n)(hz:z.length=192)(hn:gi z 176=n)(hvw:Hid (eG S.view))(hrl:S.aX.length<=1000000000)(hI:Inv (aj X Y S).own w0 w0 [aj X Y S]):
  Calls prog 116 #[.pointer (some ⟨X.b,0,none⟩),oV X,.int .i64 (k:Int),ia z] w0 λe w'=>∃Y',e=.returned (.tuple #[])∧Inv (aj X Y S).own w0 w' [aj X Y' (sU X.f S k n)]:=by
 have uR:=hX.f5;have hf0:(X.f:Int) <5:=by omega
 have alJ:k<64:=by omega
 have hwr:=TM hk5;have wL:(k:Int).toNat=k:=by simp
 cases hb:S.busy
 ·have hF:Hid (sU X.f S k n=S):=HD (by rw[sU,if_neg (by simp[hb])])
  exact W26
 ·cases hq:(n != gi S.own 0)
  ·cases hc0:decide (k∈eU X.f)
   ·have hcn:=HD hc0
    have hF:Hid (sU X.f S k n=S):=HD (by rw[sU,if_neg (by rintro⟨_,_,h⟩;simp[h]at hc0)]);clear hc0;go_enter func116,ntmps116;go_upto_region 2 with(first|refine YX ?_;intro bx w hI|refine YL ?_|go_at_call 121;refine KO hI (yA _ X.f uR) ?_;intro g cw w1 hI)
    (refine ZR [0,1,2,3,4,5,13,14,15,18,19,20] [] [] [0,1,2,3,4,5,6,7,8,9,10,11,12,13,14,15,16,17,18,19,20] (λw=>Inv (aj X Y S).own w0 w [bD 3 1 (.slice (some ⟨g,0,none⟩) 2 cw) 2 ((eU X.f).map iN),ib bx 158 z,aj X Y S]) hI ?_;intro wd hI)
    (repeat(refine ZQ ?_;go_wp2_with(first|refine YL ?_|go_at_call 153;refine KR (mi _ g cw X.f k _ hcn (hI.rd aC)) ?_);refine ZP ?_))
    go_wp2_with(fail);rw[hF.out];exact⟨rfl,_,h_ KF _ _,Y,rfl,hI.sub (.cons _ (.cons _ (.refl _)))⟩
   ·have hcn:=HD hc0
    obtain⟨K2,ah1⟩:=EQ (XG S.kept k);have hK2:Hid (bits BinOp.or IntKind.i64 S.kept (2^k)=K2):=HD ah1;have hF:Hid (sU X.f S k n=if(eU X.f).all (bt K2)=true then lL X.f {S with kept:=K2}else {S with kept:=K2}):=HD (by
     rw[sU,if_pos ⟨hb,by simpa using hq,by simpa using hc0⟩,ah1])
    clear hc0 ah1;go_enter func116,ntmps116;go_upto_region 2 with(first|refine YX ?_;intro bx w hI|refine YL ?_|go_at_call 121;refine KO hI (yA _ X.f uR) ?_;intro g cw w1 hI)
    (refine ZR [0,1,2,3,4,5,13,14,15,18,19,20] [] [] [0,1,2,3,4,5,6,7,8,9,10,11,12,13,14,15,16,17,18,19,20] (λw=>Inv (aj X Y S).own w0 w [bD 3 1 (.slice (some ⟨g,0,none⟩) 2 cw) 2 ((eU X.f).map iN),ib bx 158 z,aj X Y S]) hI ?_;intro wd hI)
    (repeat(refine ZQ ?_;go_wp2_with(first|refine YL ?_|go_at_call 153;refine KR (mi _ g cw X.f k _ hcn (hI.rd aC)) ?_);refine ZP ?_))
    go_upto_region 3 with(fail)
    refine ZT [6,7,8,9] 10 hI ?_;intro wd hI
    (repeat(refine ZQ ?_;go_wp2_with(first|refine YS ?_;intro w hI|refine YL ?_);refine ZP ?_))
    rw[hK2.out]at hI;go_upto_region 5 with(fail)
    go_loopg [10,48] 2 (λkk s10 s48 wr=>∃(j:Nat),kk=2-j∧j<=2∧s48=.int .i64 (j:Int)∧Hid (((eU X.f).take j).all (bt K2)=true)∧Inv (aj X Y S).own w0 wr [bD 3 1 (.slice (some ⟨g,0,none⟩) 2 cw) 2 ((eU X.f).map iN),ib bx 158 z,aj X Y {S with kept:=K2}])
    case atStart=>exact⟨0,rfl,by omega,rfl,HD rfl,hI⟩
    case round=>
     clear hI;obtain⟨j,rfl,hj,rfl,hA,hI⟩:=hrel;by_cases hj2:j<2
     ·obtain⟨t,ht⟩:∃t,(eU X.f)[j]? =some t:=⟨_,List.getElem?_eq_getElem (by simp[eU];omega)⟩
      have pX:t<5:=by
       have:=List.mem_of_getElem? ht;simp only[eU,List.mem_cons,List.not_mem_nil,or_false]at this;omega
      have hld:((eU X.f).map iN)[j]? =some (.int .i64 (t:Int)):=by rw[List.getElem?_map,ht];rfl
      have hA1:Hid (((eU X.f).take (j+1)).all (bt K2)=bt K2 t):=HD (by rw[List.take_add_one,ht,List.all_append,hA.out];simp);have htm:=HD (List.mem_of_getElem? ht);clear ht hA;have hkq:=Bv K2 t;cases htl:bt K2 t
      ·rw[htl]at hkq
       simp only[Bool.not_false,Bool.not_true]at hkq;have hF2:Hid (sU X.f S k n={S with kept:=K2}):=HD (by
        rw[hF.out,if_neg (by rw[all_false htm.out htl];simp)])
       clear hF hA1;go_wp2_with(first|refine YL ?_|with_reducible refine aK hI RF aC (aQ.out (t:=3)) hld ?_);rw[hF2.out];exact⟨rfl,_,h_ KF _ _,Y,rfl,hI.sub (.cons _ (.cons _ (.refl _)))⟩
      ·rw[htl]at hkq
       simp only[Bool.not_false,Bool.not_true]at hkq;go_wp2_with(first|refine YL ?_|with_reducible refine aK hI RF aC (aQ.out (t:=3)) hld ?_);go_roundg (2- (j+1))
       case measure=>omega
       case rel=>exact⟨j+1,rfl,by omega,by go_num,HD (by rw[hA1.out,htl]),hI⟩
     ·obtain rfl:j=2:=by omega
      have hF2:Hid (sU X.f S k n=lL X.f {S with kept:=K2}):=HD (by
       rw[hF.out,if_pos (by have:=hA.out;rwa [show(eU X.f).take 2=eU X.f from rfl]at this)])
      clear hF hA;go_wp2_with(go_at_call 154;refine KJ hI (Q8 _ X _ _ hX (hI.at_ a_) _ hvw RF (by with_unfolding_all exact hrl)) ?_;intro Y1 S1 w1 hS1 hI);rw[hF2.out,hS1.out];exact⟨rfl,_,h_ KF _ _,Y1,rfl,hI.sub (.cons _ (.cons _ (.refl _)))⟩
  ·have hF:Hid (sU X.f S k n=S):=HD (by rw[sU,if_neg (by rintro⟨_,h,_⟩;simp[h]at hq)])
   exact W26
end
section
variable {T:List Nat}{w0 w:World}{m m':List bT}{f b l vb rc:Nat}{ra:Option Addr}{S:RS}{Z:bT}
theorem Gj{who x v}(hv:Hid (C.mG S.aT S.sl who x=v))(hx:x.length=174)(hI:Inv T w0 w m)(hm:two (rb f b l vb ra rc S) Z∈m):Calls prog 143 #[.pointer (some ⟨b,183,none⟩),.int .i64 who,ia x] w λe w'=>e=.returned (.bool v)∧Inv T w0 w' m:=by
 grind[Go.RowKit.Hid.out,ZN]
end
theorem Oe(w0 X Y S)(hX:Bd X)(hI:Inv (aj X Y S).own w0 w0 [aj X Y S])(n z)(hz:z=(gQ.kept n).nX)(t)(pX:t<5)(hft:X.f≠t):Calls prog 122 #[.pointer (some ⟨X.b,0,none⟩),oV X,.int .i64 (t:Int),ia z] w0 λe w'=>∃Y' S',e=.returned (.tuple #[])∧Hid (dS X.f S t (.kept n)=S')∧Inv (aj X Y S).own w0 w' [aj X Y' S']:=by
 refine(uh w0 X Y S hX (.kept n) trivial z hz t pX hft hI).mono ?_
 grind
section
variable (w0:World)(X:RX)(Y:RY)(S:RS)(hX:Bd X)
include hX
theorem ah6(k)(hk5:k<5)(XK:X.f≠k)(i:Nat)(hi5:i<5)(z r)(hz:z.length=192)(h1:gi z 1=(i:Int))(hs:sub z 2 174=r)(hr:r.length=174)(hI:Inv (aj X Y S).own w0 w0 [aj X Y S]):
  Calls prog 115 #[.pointer (some ⟨X.b,0,none⟩),oV X,.int .i64 (k:Int),ia z] w0 λe w'=>∃Y',e=.returned (.tuple #[])∧Inv (aj X Y S).own w0 w' [aj X Y' (sS X.f S k i r)]:=by
 have Dj:=(aS hI aC).aT;by_cases hik:i=k
 ·subst hik
  have hq:((i:Int) != (i:Int))=false:=by simp
  have hif:=XK;cases hsl0:C.fG S.sl (i:Int)
  ·have hsl:=HD hsl0
   have hF:Hid (sS X.f S i i r=if C.mG S.aT S.sl (i:Int) r=true then
     (if(cK S (.cz i r)).2=0 then dS X.f {(cK S (.cz i r)).1 with aT:=C.gM S.aT S.sl (i:Int) r} i (.kept (gi (sub (C.gM S.aT S.sl (i:Int) r) (i*174) 174) 0))else(cK S (.cz i r)).1)
     else dS X.f S i (.kept (gi (sub S.aT (i*174) 174) 0))):=HD (by
    rw[sS,if_neg (by rw[hsl0];simp)];rfl)
   clear hsl0;cases Wy:C.mG S.aT S.sl (i:Int) r
   ·have hkb:=HD Wy
    have hF2:Hid (sS X.f S i i r=dS X.f S i (.kept (gi (sub S.aT (i*174) 174) 0))):=HD (by rw[hF.out,if_neg (by rw[Wy];simp)]);have hrl:(sub S.aT (i*174) 174).length=174:=by rw[az];omega
    clear hF Wy;go_enter func115,ntmps115;go_upto_region 1 with(refine YX ?_;intro bx w hI)
    refine ZT [3,4,10,11] 12 hI ?_;intro wd hI
    (repeat(refine ZQ ?_;go_wp2_with(first|go_at_call 47;refine KE (pV hsl hI aM) ?_;intro w1 hI|refine YL ?_);refine ZP ?_))
    go_upto_region 2 with(fail)
    refine ZT [7] 8 hI ?_;intro wd hI
    (repeat(refine ZQ ?_;go_wp2_with(first|go_at_call 143;refine KE (Gj hkb hr hI aM) ?_;intro w1 hI|refine YL ?_);refine ZP ?_))
    go_upto_region 5 with(fail)
    (refine ZR [8,11] [0,1,2] [8] [0,1,2,3,4,5,6,7,8,9,10,11] (λw=>Inv (aj X Y S).own w0 w [ib bx 158 z,aj X Y S]) hI ?_;intro wd hI)
    (repeat(first|refine ZS ?_|refine ZQ ?_;go_wp2_with(first|go_at_call 122;refine KJ hI (Oe _ X _ _ hX (hI.at_ aM) _ _ Z0 i hi5 hif) ?_;intro Y2 S2 w1 hS2 hI|go_at_call 46;refine KE (KU hi5 hI aM) ?_;intro w1 hI|with_reducible refine kfv RF hrl ?_|refine YL ?_);refine ZP ?_))
    go_wp2_with(fail);rw[hF2.out,hS2.out];exact OV
   ·have hkb:=HD Wy
    obtain⟨x0,ma⟩:=EZ (Rec.cz i r);have hx0:x0.Len:=by rw[ma];exact⟨hi5,hr⟩
    have OW:Hid (ay (au 189) [(0,[1]),(1,[(i:Int)]),(2,r)]=x0.nX):=HD (by rw[ma];exact Z4 hr);obtain⟨D',c',u',e',hP⟩:=uL S x0;have hF2:Hid (sS X.f S i i r=if e'=0 then dS X.f {S with D:=D',cnt:=c',used:=u',aT:=C.gM S.aT S.sl (i:Int) r} i (.kept (gi (sub (C.gM S.aT S.sl (i:Int) r) (i*174) 174) 0))else {S with D:=D',cnt:=c',used:=u'}):=HD (by
     rw[hF.out,if_pos Wy,<-ma,hP.out])
    have hrl:(sub (C.gM S.aT S.sl (i:Int) r) (i*174) 174).length=174:=by have:=uB (bs:=S.sl) (who:=(i:Int)) Dj hr;rw[az];omega
    clear hF Wy ma;by_cases he:e'=0
    ·subst he
     have tY:Hid (sS X.f S i i r=dS X.f {S with D:=D',cnt:=c',used:=u',aT:=C.gM S.aT S.sl (i:Int) r} i (.kept (gi (sub (C.gM S.aT S.sl (i:Int) r) (i*174) 174) 0))):=HD (by rw[hF2.out,if_pos rfl]);clear hF2;go_enter func115,ntmps115;go_upto_region 1 with(refine YX ?_;intro bx w hI)
     refine ZT [3,4,10,11] 12 hI ?_;intro wd hI
     (repeat(refine ZQ ?_;go_wp2_with(first|go_at_call 47;refine KE (pV hsl hI aM) ?_;intro w1 hI|refine YL ?_);refine ZP ?_))
     go_upto_region 2 with(fail)
     refine ZT [7] 8 hI ?_;intro wd hI
     (repeat(refine ZQ ?_;go_wp2_with(first|go_at_call 143;refine KE (Gj hkb hr hI aM) ?_;intro w1 hI|refine YL ?_);refine ZP ?_))
     go_upto_region 4 with(first|refine YL ?_|go_at_call 108;refine KG hI (ou _ X _ _ x0 hx0 _ OW.out _ _ _ _ hP (hI.at_ aM)) ?_;intro Yp w1 hI)
     refine ZT [7] 8 hI ?_;intro wd hI
     (repeat(refine ZQ ?_;go_wp2_with(first|go_at_call 102;refine KE (Tu hI (i:Int) r hr jo) ?_;intro w1 hI|refine YL ?_);refine ZP ?_))
     go_upto_region 5 with(fail)
     (refine ZR [8,11] [0,1,2] [8] [0,1,2,3,4,5,6,7,8,9,10,11] (λw=>Inv (aj X Y S).own w0 w [ib bx 158 z,aj X Yp {S with D:=D',cnt:=c',used:=u',aT:=C.gM S.aT S.sl (i:Int) r}]) hI ?_;intro wd hI)
     (repeat(first|refine ZS ?_|refine ZQ ?_;go_wp2_with(first|go_at_call 122;refine KJ hI (Oe _ X _ _ hX (hI.at_ aM) _ _ Z0 i hi5 hif) ?_;intro Y2 S2 w1 hS2 hI|go_at_call 46;refine KE (KU hi5 hI aM) ?_;intro w1 hI|with_reducible refine kfv RF hrl ?_|refine YL ?_);refine ZP ?_))
     go_wp2_with(fail);rw[tY.out,hS2.out];exact OV
    ·have tY:Hid (sS X.f S i i r={S with D:=D',cnt:=c',used:=u'}):=HD (by rw[hF2.out,if_neg he])
     have hqe:(e' != 0)=true:=by simpa using he
     clear hF2;go_enter func115,ntmps115;go_upto_region 1 with(refine YX ?_;intro bx w hI)
     refine ZT [3,4,10,11] 12 hI ?_;intro wd hI
     (repeat(refine ZQ ?_;go_wp2_with(first|go_at_call 47;refine KE (pV hsl hI aM) ?_;intro w1 hI|refine YL ?_);refine ZP ?_))
     go_upto_region 2 with(fail)
     refine ZT [7] 8 hI ?_;intro wd hI
     (repeat(refine ZQ ?_;go_wp2_with(first|go_at_call 143;refine KE (Gj hkb hr hI aM) ?_;intro w1 hI|refine YL ?_);refine ZP ?_))
     exact W66
  ·have hsl:=HD hsl0
   have hF:Hid (sS X.f S i i r=S):=HD (by rw[sS,if_pos (.inr hsl0)]);clear hsl0;go_enter func115,ntmps115;go_upto_region 1 with(refine YX ?_;intro bx w hI)
   refine ZT [3,4,10,11] 12 hI ?_;intro wd hI
   (repeat(refine ZQ ?_;go_wp2_with(first|go_at_call 47;refine KE (pV hsl hI aM) ?_;intro w1 hI|refine YL ?_);refine ZP ?_))
   go_wp2_with(fail);rw[hF.out];exact W40
 ·have hF:Hid (sS X.f S k i r=S):=HD (by rw[sS,if_pos (.inl hik)])
  have hq:((i:Int) != (k:Int))=true:=by simp;omega
  clear hik;go_enter func115,ntmps115;go_upto_region 1 with(refine YX ?_;intro bx w hI)
  (refine ZR [3,4,10,11] [] [] [0,1,2,3,4,5,6,7,8,9,10,11] (λw=>Inv (aj X Y S).own w0 w [ib bx 158 z,aj X Y S]) hI ?_;intro wd hI)
  exact W62
theorem aa0(k:Nat)(z)(hz:z.length=192)(h0:gi z 0=0)(S1)(hT:∀w1,Inv (aj X Y S).own w1 w1 [aj X Y S]->Calls prog 115 #[.pointer (some ⟨X.b,0,none⟩),oV X,.int .i64 (k:Int),ia z] w1 λe w'=>∃Y',e=.returned (.tuple #[])∧Inv (aj X Y S).own w1 w' [aj X Y' S1])(hI:Inv (aj X Y S).own w0 w0 [aj X Y S]):
  Calls prog 77 #[.pointer (some ⟨X.b,0,none⟩),oV X,.int .i64 (k:Int),ia z] w0 λe w'=>∃Y',e=.returned (.tuple #[])∧Inv (aj X Y S).own w0 w' [aj X Y' S1]:=by
 go_enter func77,ntmps77;go_wp2_with(first|refine YL ?_|refine YX ?_;intro bx w hI|go_at_call 115;refine KG hI (hT _ (hI.at_ aM)) ?_;intro Y2 w1 hI);exact OV
theorem aa1(k:Nat)(z)(hz:z.length=192)(h0:gi z 0=1)(S1)(hT:∀w1,Inv (aj X Y S).own w1 w1 [aj X Y S]->Calls prog 116 #[.pointer (some ⟨X.b,0,none⟩),oV X,.int .i64 (k:Int),ia z] w1 λe w'=>∃Y',e=.returned (.tuple #[])∧Inv (aj X Y S).own w1 w' [aj X Y' S1])(hI:Inv (aj X Y S).own w0 w0 [aj X Y S]):
  Calls prog 77 #[.pointer (some ⟨X.b,0,none⟩),oV X,.int .i64 (k:Int),ia z] w0 λe w'=>∃Y',e=.returned (.tuple #[])∧Inv (aj X Y S).own w0 w' [aj X Y' S1]:=by
 go_enter func77,ntmps77;go_wp2_with(first|refine YL ?_|refine YX ?_;intro bx w hI|go_at_call 116;refine KG hI (hT _ (hI.at_ aM)) ?_;intro Y2 w1 hI);exact OV
theorem ael(k i:Nat)(z r)(hz:z.length=192)(h0:gi z 0=2)(h1:gi z 1=(i:Int))(hs:sub z 2 174=r)(hr:r.length=174)(hI:Inv (aj X Y S).own w0 w0 [aj X Y S]):
  Calls prog 77 #[.pointer (some ⟨X.b,0,none⟩),oV X,.int .i64 (k:Int),ia z] w0 λe w'=>∃Y',e=.returned (.tuple #[])∧Inv (aj X Y S).own w0 w' [aj X Y' (ZF S i r)]:=by
 go_enter func77,ntmps77;go_upto_region 7 with(first|refine YL ?_|refine YX ?_;intro bx w hI)
 refine ZT [7] 8 hI ?_;intro wd hI
 (repeat(refine ZQ ?_;go_wp2_with(first|go_at_call 48;refine KE (Kr hI (i:Int) r hr jo) ?_;intro w1 hI|refine YL ?_);refine ZP ?_))
 go_wp2_with(fail);exact W40
end
