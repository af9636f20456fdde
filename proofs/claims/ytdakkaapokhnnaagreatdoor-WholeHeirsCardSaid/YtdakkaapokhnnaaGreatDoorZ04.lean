/- Contracts of functions. No condition. -/
import Derived.Test.YtdakkaapokhnnaaGreatDoorRows
import Derived.Test.YtdakkaapokhnnaaGreatDoorZ02
namespace Go.Proofs.YtdakkaapokhnnaaGreatDoor
open Go.RowKit Go.Proofs.Tryz
set_option maxRecDepth 100000
set_option maxHeartbeats 6400000
set_option linter.all false
theorem H6(a:Nat)(ha:a<9223372036854775808):(BitVec.ofInt 64 (a:Int)).toNat=a:=by grind
theorem JW(r:Nat)(h:r<9223372036854775808):IntKind.i64.wrap (r:Int)=(r:Int):=by
 exact W96
theorem Eg(a b:Nat)(ha:a<9223372036854775808)(hb:b<9223372036854775808):bits .or .i64 (a:Int) (b:Int)=((a ||| b:Nat):Int):=by
 show IntKind.i64.wrap ((BitVec.ofInt 64 (a:Int) ||| BitVec.ofInt 64 (b:Int)).toNat:Int)=_;rw[BitVec.toNat_or,H6 a ha,H6 b hb];exact JW _ (Nat.or_lt_two_pow (n:=63) OM OM)
section
open Go.MapKept (IsKey)
structure u7 (es:Array MapEntry) (f:Int->Option Value):Prop where
 keys:∀(i:Nat) (x:MapEntry),es[i]? =some x->∃k,x.key=.int .i64 k
 inj:∀(i j:Nat) (x y:MapEntry),es[i]? =some x->es[j]? =some y->x.key=y.key->i=j
 at_:∀k v,f k=some v↔∃(i:Nat) (x:MapEntry),es[i]? =some x∧x.key=.int .i64 k∧x.val=v
def mpr(r:Nat)(f:Int->Option Value):bT:=
 ⟨[r],λw=>∃es clock,w.heap[r]? =some (.map es clock)∧u7 es f,λw w' h hs=>by
  obtain⟨es,clock,h1,h2⟩:=hs;exact⟨es,clock,by rw[h r SI];exact h1,h2⟩⟩
theorem u7.empty:u7 #[] (λ_=>none):=⟨by simp,by simp,by simp⟩
theorem nQ(k):IsKey (.int .i64) (.int .i64 k):=by simp[IsKey]
theorem u7.isKey{es f}(h:u7 es f):∀x∈es.toList,IsKey (.int .i64) x.key:=by
 grind[List.getElem?_of_mem,u7.keys,nQ]
theorem u7.push{es f}(h:u7 es f){k}(hk:∀x∈es.toList,x.key≠ .int .i64 k)(v b):u7 (es.push ⟨.int .i64 k,v,b⟩) (λj=>if j=k then some v else f j):=by
 refine⟨λi x hx=>?_,λi j x y hx hy he=>?_,λj u=>?_⟩
 ·grind[u7.keys]
 ·grind[u7.inj]
 ·constructor
  ·intro hf
   by_cases hjk:j=k
   ·rw[if_pos hjk]at hf
    cases hf;exact⟨es.size,⟨.int .i64 k,v,b⟩,by simp,by rw[hjk],rfl⟩
   ·rw[if_neg hjk]at hf
    obtain⟨i,x,h1,h2,h3⟩:=(h.at_ j u).1 hf;exact⟨i,x,by grind,h2,h3⟩
  ·rintro⟨i,x,h1,h2,h3⟩
   rw[Array.getElem?_push]at h1
   split at h1
   ·grind
   ·have hjk:j≠k:=by
     grind
    rw[if_neg hjk];exact(h.at_ j u).2 ⟨i,x,h1,h2,h3⟩
theorem u7.modify{es f}(h:u7 es f){k n e}(hn:es[n]? =some e)(he:e.key=.int .i64 k)(v):u7 (es.modify n λe=>{e with key:=.int .i64 k,val:=v}) (λj=>if j=k then some v else f j):=by
 have hget:∀i:Nat,(es.modify n λe=>{e with key:=.int .i64 k,val:=v})[i]? =if n=i then(es[i]?).map (λe=>{e with key:=.int .i64 k,val:=v})else es[i]? :=λi=>by
  grind
 refine⟨λi x hx=>?_,λi j x y hx hy hxy=>?_,λj u=>?_⟩
 ·grind[u7.keys]
 ·grind[u7.inj]
 ·constructor
  ·intro hf
   by_cases hjk:j=k
   ·grind
   ·rw[if_neg hjk]at hf
    obtain⟨i,x,h1,h2,h3⟩:=(h.at_ j u).1 hf
    grind
  ·rintro⟨i,x,h1,h2,h3⟩
   rw[hget]at h1
   split at h1
   ·grind
   ·have hjk:j≠k:=by
     grind[u7.inj]
    rw[if_neg hjk];exact(h.at_ j u).2 ⟨i,x,h1,h2,h3⟩
section
variable {P:Program}{ops:Array Oper}{Q:Exit->Act->World->Prop}{a:Act}{rest:List Oper}{T:List Nat}{w0 w:World}{m m':List bT}{dst:Option Tmp}{ty:TypeId}{pos:String}{af:Array Edge}
def af7(P:Program)(t kt et:TypeId):Prop:=P.underlying t=some (.map kt et)∧P.underlying kt=some (.int .i64)
theorem Eo{t}(hI:Inv T w0 w m)(k:∀r w',Inv T w0 w' (mpr r (λ_=>none)::m)->wpList P ops Q rest (a.put dst (.map (some r))) w'):wpList P ops Q (⟨dst,.makeMap t none,ty,pos,af,none⟩::rest) a w:=
 wpList_plain rfl λK hK=>by
  refine hK _ _ (k w.heap.size (w.alloc (.map #[] 0)) ?_);have hsz:(w.alloc (.map #[] 0)).heap.size=w.heap.size+1:=by simp_all
  exact hI.new ⟨rfl,rfl,rfl,by omega,λj hj _=>(MapKept.heap_alloc w _).2 j hj⟩ ⟨#[],0,(MapKept.heap_alloc w _).1,u7.empty⟩ (by grind[mpr]) (by simp[mpr])
theorem Ps{t kt et r f z}(hT:af7 P t kt et)(hz:(P.info? et).map (·.zero)=some (some z))(hs:(mpr r f).sat w)(j c):
  (Instr.lookup t (.map (some r)) (.int .i64 j) c).run P w=.ok (if c then .tuple #[(f j).getD z,.bool (f j).isSome]else(f j).getD z) w:=by
 obtain⟨es,clock,hb,hM⟩:=hs;obtain⟨inf,JL,hz'⟩:=Option.map_eq_some_iff.1 hz;have hzv:(zeroValue et).run P w=.ok z w:=by simp[zeroValue,typeInfo,JL,hz']
 rcases MapKept.findNow_spec (nQ j) es.toList 0 hM.isKey with⟨h1,h2⟩ | ⟨i,e,h1,h2,h3⟩
 ·have hf:f j=none:=by
   cases hf:f j with
   |none=>rfl
   |some v=>
    obtain⟨i,x,hx,hk,_⟩:=(hM.at_ j v).1 hf
    grind
  simp[Instr.lookup,run_underlying hT.1,MapKept.run_getObj_map hb,MapKept.run_checkKey hT.2 (nQ j),MapKept.run_findKey hT.2 h1,Result.andThen,hzv,hf]
 ·have hf:f j=some e.val:=(hM.at_ j e.val).2 ⟨i,e,by grind,h3,rfl⟩
  simp[Instr.lookup,run_underlying hT.1,MapKept.run_getObj_map hb,MapKept.run_checkKey hT.2 (nQ j),MapKept.run_findKey hT.2 h1,Result.andThen,hf]
theorem Bj{x y u t kt et r f j v}(hI:Inv T w0 w m)(hx:a.eval x=.map (some r))(hy:a.eval y=.int .i64 j)(hu:a.eval u=v)(hT:af7 P t kt et)(hup:aU (mpr r f) (mpr r (λi=>if i=j then some v else f i)) m m')(k:∀w',Inv T w0 w' m'->wpList P ops Q rest (a.put dst undef) w'):wpList P ops Q (⟨dst,.mapUpdate t x y u,ty,pos,af,none⟩::rest) a w:=
 wpList_plain rfl λK hK=>by
  have hs:(mpr r f).sat w:=by
   grind[aU.split,Inv.sat]
  obtain⟨es,clock,hb,hM⟩:=hs;have step:∀o:Obj,Step [r] w {w with heap:=w.heap.setIfInBounds r o}:=λo=>⟨rfl,rfl,rfl,by simp,λi _ hi=>(MapKept.heap_set hb).2 i (by grind)⟩
  rcases MapKept.findNow_spec (nQ j) es.toList 0 hM.isKey with⟨h1,h2⟩ | ⟨i,e,h1,h2,h3⟩
  ·have hr:(Instr.mapUpdate t (.map (some r)) (.int .i64 j) v).run P w=.ok () {w with heap:=w.heap.setIfInBounds r (.map (es.push ⟨.int .i64 j,v,clock⟩) (clock+1))}:=by
    simp[Instr.mapUpdate,run_underlying hT.1,MapKept.run_getObj_map hb,MapKept.run_checkKey hT.2 (nQ j),MapKept.run_findKey hT.2 h1,MapKept.run_setObj_map _ hb,Result.andThen]
   unfold Oper.wp execOp;simp only[hx,hy,hu,Sem.run_bind,hr,Result.andThen_ok,Sem.run_pure];refine hK _ _ (k _ ?_)
   grind[Inv.upd,u7.push,mpr]
  ·have hj:es[i]? =some e:=by grind
   have hr:(Instr.mapUpdate t (.map (some r)) (.int .i64 j) v).run P w=.ok () {w with heap:=w.heap.setIfInBounds r (.map (es.modify i λe=>{e with key:=.int .i64 j,val:=v}) clock)}:=by
    simp[Instr.mapUpdate,run_underlying hT.1,MapKept.run_getObj_map hb,MapKept.run_checkKey hT.2 (nQ j),MapKept.run_findKey hT.2 h1,hj,h3,MapKept.run_keyThatStays (nQ j),MapKept.run_setObj_map _ hb,Result.andThen]
   unfold Oper.wp execOp;simp only[hx,hy,hu,Sem.run_bind,hr,Result.andThen_ok,Sem.run_pure];refine hK _ _ (k _ ?_);exact hI.upd hup (step _) ⟨_,_,(MapKept.heap_set hb).1,hM.modify hj h3 v⟩ (λi hi=> .inl hi) (by simp[mpr])
end
end

section
variable {P:Program}{ops:Array Oper}{Q:Exit->Act->World->Prop}{md:Region.Mode}{C:World->Prop}
def Su(Q:Exit->Act->World->Prop):Exit->Act->World->Prop:=λe a w=>∃c,e=.panic c∧Q (.panic c) a w
theorem Yd{c a w}(h:Q (.panic c) a w):Su Q (.panic c) a w:=⟨c,rfl,h⟩
theorem Me{o a w K}(hw:Region.wanted o (yielded ops a.tmps)=true)(h:wpList P ops (Su Q) [o] a w):o.wp P a w K Q:=by
 unfold wpList at h;rw[if_pos hw]at h;rcases h with h| ⟨_,a',w',h⟩
 ·unfold Oper.wp at h|-
  generalize(execOp a.eval o).run P w=r at h;have one:∀a w,wpList P ops (Su Q) [] a w->False:=λa w hh=>by obtain⟨_,he,_⟩:=hh;cases he
  cases r with
  |ok n w'=>
   cases n<;>simp only[Oper.upon]at h|-
   case value u=>grind
   case skip=>grind
   case defer d=>grind
   case enter f args=>
    refine h.mono λe w'' hh=>?_
    cases e with
    |returned u=>grind
    |panicked c=>obtain⟨_,he,hq⟩:=hh;grind
    |outgrown=>obtain⟨_,_,hh⟩:=hh;obtain⟨_,he,_⟩:=hh;cases he
   grind[Go.Rows.mono]
  |halt x w'=>cases x<;>simp only[Oper.upon]at h|-<;>(obtain⟨_,he,hq⟩:=h;grind)
 ·obtain⟨_,he,_⟩:=h;cases he
theorem PD{l:List Oper}{i o fuel}{listed:Array Bool}{a w}(ho:l[i]? =some o)(hw:Region.wanted o (yielded l.toArray a.tmps)=true)(h:wpList P l.toArray (Su Q) [o] a w):wpOp P l.toArray Q i (o_ C P md l.toArray Q fuel (listed.setIfInBounds i true)) a w:=by
 unfold wpOp
 grind[Me]
end
def J5(e:TypeId)(v:Value)(xs:List Value):bT:=
 ⟨v.ownBlock.toList,λw=>(v=.slice none 0 0∧xs=[])∨∃g off cap cur,v=.slice (some ⟨g,off,none⟩) xs.length cap∧w.heap[g]? =some (.cells (cur:List Value).toArray e (0,0))∧xs.length<=cap∧cap<=maxLen∧off+cap<=cur.length∧(cur.drop off).take xs.length=xs,
  λw w' h hs=>by
   rcases hs with h0| ⟨g,off,cap,cur,rfl,hg,rest⟩
   ·exact .inl h0
   ·exact .inr ⟨g,off,cap,cur,rfl,(h g (by simp[Value.ownBlock])).trans hg,rest⟩⟩
section
variable {w:World}{e:TypeId}{xs:List Value}
theorem EB{a n c}(h:(J5 e (.slice a n c) xs).sat w):Rd w a xs:=by
 intro j u hj;rcases h with⟨_,rfl⟩ | ⟨g,off,cap,cur,hv,hg,h1,h2,h3,h4⟩
 ·grind
 ·obtain⟨rfl,rfl,rfl⟩:=hv
  refine⟨g,off,rfl,?_⟩;rw[<-h4,List.getElem?_take]at hj
  split at hj
  ·rw[List.getElem?_drop]at hj
   simp[World.cell?,hg,hj]
  grind
theorem acP{a n c}(h:(J5 e (.slice a n c) xs).sat w):n=xs.length∧n<=c∧(a=none->n=0∧c=0):=by
 rcases h with⟨hv,rfl⟩ | ⟨g,off,cap,cur,hv,hg,h1,h2,h3,h4⟩
 all_goals grind
theorem EC{P}{t bytes:Nat}{z}(hT:wy P t e 1 bytes z)(ty){a0 n c0}(hown:(J5 e (.slice a0 n c0) xs).sat w){ao q c news}(hr:Rd w ao news)(hl:news.length=q)(h1:∀u∈news,u.oneCell'=true)(h63:n+q<=maxLen)(hbytes:(n+q)*bytes<=140737488355328):
  ∃a' c' w',(Builtin.append_ #[t,t] ty #[.slice a0 n c0,.slice ao q c]).run P w=.ok (.slice a' (n+q) c') w'∧(J5 e (.slice a' (n+q) c') (xs++news)).sat w'∧
   Step (Value.ownBlock (.slice a0 n c0)).toList w w'∧(∀k,(Value.ownBlock (.slice a' (n+q) c'))=some k->(Value.ownBlock (.slice a0 n c0))=some k∨(w.heap.size<=k∧k<w'.heap.size)):=by
 obtain⟨i,hi,hz,ala,rfl⟩:=hT.info;have ht:=hT.und;have hzs:=hT.zc;obtain⟨hnl,hnc,hnone⟩:=acP hown;have hsrc:∀w2:World,(∀j u,news[j]? =some u->∃b off,ao=some ⟨b,off,none⟩∧w2.cell? ⟨b,off+j,none⟩=some u)->Src P i.size t (.slice ao q c) q news w2:=by
  intro w2 hr2;cases ao with
  |none=>
   have hn:news=[]:=by
    cases news with
    |nil=>rfl
    |cons u l=>obtain⟨_,_,h,_⟩:=hr2 0 u rfl;cases h
   grind[Go.Src.ofNil]
  |some ad=>grind[Go.Src.ofSlice,kP]
 have hs:=hsrc w hr;by_cases hroom:n+q<=c0
 ·rcases hown with⟨hv,hx⟩ | ⟨g,off,cap,cur,hv,hg,b1,b2,b3,b4⟩
  ·cases hv
   have hq:q=0:=by omega
   subst hq;have hn:news=[]:=List.eq_nil_of_length_eq_zero hl;subst hn hx;have hrn:=run_append_nothing (P:=P) w t t ty e i ht hi none 0 0 (Nat.le_refl _) (.slice ao 0 c) hs;exact⟨none,0,w,hrn,.inl ⟨rfl,rfl⟩,.refl _ _,λk hk=>by grind⟩
  ·simp only[Value.slice.injEq]at hv
   obtain⟨rfl,rfl,rfl⟩:=hv;have hcells:∀j,w.cell? ⟨g,j,none⟩=cur[j]? :=λj=>qd hg j
   have hrr:=run_append_room_src (P:=P) w t t ty e i ht hi g off xs.length c0 (.slice ao q c) q news hs hroom
    (λj hj=>by grind)
    (λj hj=>by simp[World.frozen?,hg])
   rw[ala,Nat.mul_one]at hrr;obtain⟨w',hst,hstep,hsize,hheap⟩:=rf (P:=P) (b:=g) (e:=e) news h1 w cur (off+xs.length) 0 hg OM;have acQ:=run_storeCells_cells (P:=P) g (off+xs.length) news 0 w (by grind) (by simp[World.frozen?,hg]) h1;have hw:w.setCells g (off+xs.length) news=w':=by
    grind
   rw[hw]at hrr;refine⟨some ⟨g,off,none⟩,c0,w',hrr,.inr ⟨g,off,c0,splice cur (off+xs.length) news,by grind,hheap,by grind,b2,by grind[splice],?_⟩,hstep,λk hk=> .inl hk⟩
   grind[splice]
 ·have hgrow:c0<n+q:=by omega
  have hold:(Builtin.firstCells i.size n (.slice a0 n c0)).run P w.drew=.ok xs.toArray w.drew:=by
   cases a0 with
   |none=>
    grind[Go.run_firstCells_none]
   |some ad=>
    refine run_firstCells_some w.drew _ n ad n c0 xs (by grind) (λj u hj=>?_);obtain⟨b,off,hab,hc⟩:=EB hown j u hj
    simp_all[kP]
  have hrr:=run_append_grow_src (P:=P) w t t ty e i z ht hi hz a0 n c0 xs hold (.slice ao q c) q news hs hgrow (by simp only[maxLen]at h63;omega) (growslice_fits hgrow hbytes);have hge:=grownCap_ge w (n+q) c0 e;refine⟨some ⟨w.heap.size,0,none⟩,_,_,hrr,.inr ⟨w.heap.size,0,grownCap w (n+q) c0 e,(xs++news)++(Builtin.zeroCells z.cells (grownCap w (n+q) c0 e- (n+q))).toList,by grind,?_,?_,grownCap_le_maxLen w (n+q) c0 e h63,?_,?_⟩,⟨rfl,rfl,rfl,by simp,λk hk _=>_root_.Go.heap_alloc_old w.drew _ hk⟩,λk hk=> .inr (by
   have hk:w.heap.size=k:=by simpa[Value.ownBlock]using hk
   simp_all)⟩
  ·have:=heap_alloc_new w.drew (.cells ((xs++news).toArray++Builtin.zeroCells z.cells (grownCap w (n+q) c0 e- (n+q))) e)
   simp_all
  all_goals grind[Go.size_zeroCells]
end
section
variable {P:Program}{ops:Array Oper}{Q:Exit->Act->World->Prop}{a:Act}{rest:List Oper}{T:List Nat}{w0 w:World}{m:List bT}{dst:Option Tmp}{ty:TypeId}{pos:String}{af:Array Edge}
theorem sM{m':bT->List bT}{s x}{t e bytes n q c0 c:Nat}{z a0 ao xs news}(hI:Inv T w0 w m)(hs:a.eval s=.slice a0 n c0)(hx:a.eval x=.slice ao q c)(hT:wy P t e 1 bytes z)(hu:∀r',aU (J5 e (.slice a0 n c0) xs) r' m (m' r'))(hr:Rd w ao news)(hl:news.length=q)(h1:∀u∈news,u.oneCell'=true)(h63:n+q<=maxLen)(hbytes:(n+q)*bytes<=140737488355328)(k:∀a' c' w',Inv T w0 w' (m' (J5 e (.slice a' (n+q) c') (xs++news)))->wpList P ops Q rest (a.put dst (.slice a' (n+q) c')) w'):
  wpList P ops Q (⟨dst,.call {callee:=.builtin .append,args:= #[s,x],argTypes:= #[t,t]},ty,pos,af,none⟩::rest) a w:=
 wpList_plain rfl λK hK=>by
  have hown:(J5 e (.slice a0 n c0) xs).sat w:=by
   obtain⟨m1,m2,rfl,_⟩:=(hu (J5 e (.slice a0 n c0) xs)).split
   grind[Inv.sat]
  obtain⟨a',c',w',hrun,ho,hst,hk⟩:=EC (P:=P) hT ty hown hr hl h1 h63 hbytes (c:=c);unfold Oper.wp execOp;simp only[resolve,invoke,builtin,Sem.run_bind,Sem.run_pure,Result.andThen_ok,List.map_toArray,List.map_cons,List.map_nil,hs,hx,hrun];refine hK _ _ (k a' c' w' (hI.upd (hu _) hst ho (λj hj=>?_) ?_))
  all_goals grind[J5]
end
theorem agq:ownKnob prog.godebug=none:=by kernel_rfl
theorem XI:laidOutB prog=true:=by kernel_rfl
theorem ru.done{w}:∀ {cs},ru w [] cs->cs=[]
 | [],_=>rfl
section
variable {P:Program}
def OY(P:Program)(t n:Nat):Prop:=CR P t (List.replicate n O1)
theorem OY.int{t}(ht:P.underlying t=some (.int .i64))(hc:P.cellsOf t=1):OY P t 1:=CR.int ht hc
theorem YE{α}(p:α)(n):∀k,(List.replicate k (List.replicate n p)).flatten=List.replicate (k*n) p
  :=by simp_all
theorem OY.array{t e k n:Nat}(ht:P.underlying t=some (.array k e))(he:OY P e n)(hc:P.cellsOf t=k*n):OY P t (k*n):=by
 have:=CR.array ht he (by grind)
 grind[OY,YE]
def tH(P:Program):List (TypeId×Nat)->Nat->Nat->Prop
 | [],_,n=>n=0
 |x::l,o,n=>x.2=o∧∃q r,OY P x.1 q∧tH P l (o+q) r∧n=q+r
theorem tH.nil{o}:tH P [] o 0:=rfl
theorem tH.cons{t o q r l}(h:OY P t q)(hr:tH P l (o+q) r):tH P ((t,o)::l) o (q+r):=⟨rfl,q,r,h,hr,rfl⟩
theorem tH.fields:∀ {l o n},tH P l o n->pW P l o (List.replicate n O1)
 | [],_,_,h=>by
  subst h;rfl
 | (t,o')::l,o,n,h=>by
  obtain⟨rfl,q,r,h1,h2,rfl⟩:=h;have h3:=tH.fields h2;rw[<-List.replicate_append_replicate];exact pW.cons h1 (by grind)
theorem OY.struct{t n:Nat}{l}(ht:P.underlying t=some (.struct (P.fieldsOf t)))(hl:(P.fieldsOf t).toList.map fieldAt=l)(hc:P.cellsOf t=n)(h:tH P l 0 n):OY P t n:=
 CR.struct ht hl (by grind) h.fields
theorem ai2{zs}(h:∀z∈zs,(Lit.int .i64 z).wf=true)(i):-9223372036854775808<=gi zs i∧gi zs i<=9223372036854775807:=by
 unfold gi;rw[List.getD_eq_getElem?_getD];cases hz:zs[i]? with
 |none=>simp
 |some z=>
  have:=h z (List.mem_of_getElem? hz);simpa[Lit.wf,IntKind.min,IntKind.bits,IntKind.signed]using this
end
namespace C
end C
section
open Go.RowKit Go.Conc
section
variable {P:Program}{Q:Exit->Act->World->Prop}{a:Act}{w:World}
def mH(P:Program)(c:Code)(Q:Exit->Act->World->Prop)(a:Act)(w:World):Prop:=
 ∀(b:Frame) (k:List Item) (cs:List Frame),b.kind=.normal->∃e a' w',Q e a' w'∧Arrives P (lone (b.at a (.code c::k)) cs w) b k cs e a' w'
def lH(P:Program)(ops:Array Oper)(l:List Nat)(Q:Exit->Act->World->Prop)(a:Act)(w:World):Prop:=
 ∀(b:Frame) (k:List Item) (cs:List Frame),b.kind=.normal->∃e a' w',Q e a' w'∧Arrives P (lone (b.at a (.inRegion ops l::k)) cs w) b k cs e a' w'
theorem mH.of{c}(h:c.wp P Q a w):mH P c Q a w:=λb k cs _=>h b k cs
theorem mH.seq{x y}(h:mH P x (Exit.then (mH P y Q) Q) a w):mH P (.seq x y) Q a w:=by
 intro b k cs hk;obtain⟨e,a₁,w₁,hq,harr⟩:=h b (.code y::k) cs hk;cases e with
 |normal=>
  obtain⟨e₂,a₂,w₂,hq₂,harr₂⟩:=hq b k cs hk;exact⟨e₂,a₂,w₂,hq₂,.of_steps (.head step_seq harr) harr₂⟩
 |exit id=>exact⟨_,a₁,w₁,hq,.of_steps (.one step_seq) (.pass (x:=.code y) rfl (λ_ _=> .inl SI) harr)⟩
 |goto l=>exact⟨_,a₁,w₁,hq,.of_steps (.one step_seq) (.pass (x:=.code y) rfl (λ_ _=> .inl SI) harr)⟩
 |ret=>exact⟨_,a₁,w₁,hq,.of_steps (.one step_seq) (.pass (x:=.code y) rfl (λ_ _=> .inl SI) harr)⟩
 |panic ch=>exact⟨_,a₁,w₁,hq,.of_steps (.one step_seq) (.pass (x:=.code y) rfl (λ_ _=> .inl SI) harr)⟩
 |outgrown=>exact⟨_,a₁,w₁,hq,.of_steps (.one step_seq) (.pass (x:=.code y) rfl (λ_ _=> .inl SI) harr)⟩
theorem mH.block{id c}(h:mH P c (Exit.inBlock id Q) a w):mH P (.block id c) Q a w:=by
 intro b k cs hk;obtain⟨e,a₁,w₁,hq,harr⟩:=h b (.inBlock id::k) cs hk;cases e with
 |normal=>exact⟨.normal,a₁,w₁,hq,.head step_block (Steps.trans harr (.one step_inBlock))⟩
 |exit id'=>
  by_cases hid:id'=id
  ·simp only[Exit.inBlock,hid,if_true]at hq
   exact⟨.normal,a₁,w₁,hq,.head step_block (harr k (by simp[exitTo,hid]))⟩
  ·simp only[Exit.inBlock,hid,if_false]at hq
   refine⟨.exit id',a₁,w₁,hq,λk' hk=> .head step_block (harr k' ?_)⟩;have:(id==id')=false:=by grind
   simp[exitTo,this,hk]
 |goto l=>exact⟨_,a₁,w₁,hq,λk' hk=> .head step_block (harr k' (by simp[gotoIn,hk]))⟩
 |ret=>exact⟨_,a₁,w₁,hq,.of_steps (.one step_block) harr⟩
 |panic ch=>exact⟨_,a₁,w₁,hq,.of_steps (.one step_block) harr⟩
 |outgrown=>exact⟨_,a₁,w₁,hq,.of_steps (b:=b) (k:=k) (cs:=cs) (e:=.outgrown) (.one step_block) harr⟩
theorem mH.loop{c}(I:Act->World->Prop)(μ:Act->World->Nat)(h₀:I a w)(round:∀a w,I a w->mH P c (Exit.then (λa' w'=>I a' w'∧μ a' w'<μ a w) Q) a w):mH P (.loop c) Q a w:=by
 intro b k cs hk;have key:∀n a w,μ a w=n->I a w->
   ∃e a' w',Q e a' w'∧Arrives P (lone (b.at a (.code c::.inLoop c::k)) cs w) b k cs e a' w':=by
  intro n
  induction n using Nat.strongRecOn with
  |_ n ih=>
   intro a w hn hI;obtain⟨e,a₁,w₁,hq,harr⟩:=round a w hI b (.inLoop c::k) cs hk;cases e with
   |normal=>
    obtain⟨hI₁,hlt⟩:=hq;obtain⟨e₂,a₂,w₂,hq₂,harr₂⟩:=ih (μ a₁ w₁) (hn▸hlt) a₁ w₁ rfl hI₁;exact⟨e₂,a₂,w₂,hq₂,.of_steps (Steps.trans harr (.one step_inLoop)) harr₂⟩
   |exit id=>exact⟨_,a₁,w₁,hq,.pass (x:=.inLoop c) rfl (λ_ _=> .inl SI) harr⟩
   |goto l=>exact⟨_,a₁,w₁,hq,.pass (x:=.inLoop c) rfl (λ_ _=> .inl SI) harr⟩
   |ret=>exact⟨_,a₁,w₁,hq,.pass (x:=.inLoop c) rfl (λ_ _=> .inl SI) harr⟩
   |panic ch=>exact⟨_,a₁,w₁,hq,.pass (x:=.inLoop c) rfl (λ_ _=> .inl SI) harr⟩
   |outgrown=>exact⟨_,a₁,w₁,hq,.pass (x:=.inLoop c) rfl (λ_ _=> .inl SI) harr⟩
 obtain⟨e,a',w',hq,harr⟩:=key _ a w rfl h₀;exact⟨e,a',w',hq,.of_steps (.one step_loop) harr⟩
theorem mH.region{id ops}(h:lH P ops (List.range ops.size) Q a w):mH P (.region id ops false) Q a w:=
 λb k cs hk=>let ⟨e,a',w',q,r⟩:=h b k cs hk;⟨e,a',w',q,.of_steps (.one step_region) r⟩
theorem lH.ops{ops l}(h:wpOps P ops Q l a w):lH P ops l Q a w:=λb k cs _=>wp_ops l a w h b k cs
theorem lH.pre{ops r}(l):∀ {a w},wpOps P ops (λe a w=>e=.normal∧lH P ops r Q a w) l a w->lH P ops (l++r) Q a w:=by
 induction l with
 |nil=>exact λh=>h.2
 |cons i rest ih=>
  intro a w h b k cs hkd;simp only[wpOps]at h;rw[List.cons_append];cases ho:ops[i]? with
  |none=>
   simp only[ho]at h;obtain⟨e,a',w',hq,harr⟩:=ih h b k cs hkd;have hs:=step_op_skip (P:=P) (b:=b) (a:=a) (k:=k) (cs:=cs) (w:=w) (ops:=ops) (i:=i) (rest:=rest++r) (by simp[ho]);simp only[ho,Option.bind_none,Act.put]at hs;exact⟨e,a',w',hq,.of_steps (.one hs) harr⟩
  |some o=>
   simp only[ho]at h;by_cases hw:Region.wanted o (yielded ops a.tmps)=true
   ·simp only[hw,if_true]at h
    rcases h with h| ⟨_,a₀,w₀,hq⟩;simp only[Oper.wp,Oper.upon]at h;have hg:=stepG_op (P:=P) (b:=b) (k:=k) (cs:=cs) (w:=w) (rest:=rest++r) ho hw;have hfin:∀v,(b.at a (.inRegion ops (i::(rest++r))::k)).finish v=b.at (a.put o.dst v) (.inRegion ops (rest++r)::k):=by
     grind[Go.Frame.finish_at]
    split at h
    ·rename_i v w' hr
     obtain⟨e,a',w'',hq,harr⟩:=ih h b k cs hkd;refine⟨e,a',w'',hq,.of_steps (.one (step_lone_go ?_)) harr⟩;rw[hg,<-hfin];simp[stepG.apply,hr]
    ·rename_i w' hr
     obtain⟨e,a',w'',hq,harr⟩:=ih h b k cs hkd;refine⟨e,a',w'',hq,.of_steps (.one (step_lone_go ?_)) harr⟩;rw[hg,<-hfin];simp[stepG.apply,hr]
    ·rename_i d w' hr
     obtain⟨e,a',w'',hq,harr⟩:=ih h b k cs hkd;refine⟨e,a',w'',hq,.of_steps (.one (step_lone_go ?_)) harr⟩;have:({b.at a (.inRegion ops (i::(rest++r))::k)with defers:=d::a.defers}:Frame).finish undef=
       b.at ({a with defers:=d::a.defers}.put o.dst undef) (.inRegion ops (rest++r)::k):=by
      have:=Frame.finish_at b {a with defers:=d::a.defers} ops i (rest++r) k undef;rw[ho]at this;exact this
     rw[hg];simp only[stepG.apply,Sem.runT_eq,hr,GStep.bare_after];exact congrArg (λfr=>GStep.go {frame:=fr,callers:=cs,status:=.running,dying:=none} w') this
    ·rename_i f args w' hr
     obtain⟨e,w'',fr,hR,hsteps,_,hleave⟩:=h (b.at a (.inRegion ops (i::(rest++r))::k)::cs);have henter:step P (lone (b.at a (.inRegion ops (i::(rest++r))::k)) cs w)=
       .next (lone (Frame.enter P f args .normal) (b.at a (.inRegion ops (i::(rest++r))::k)::cs) w'):=
      step_lone_go (by rw[hg];simp[stepG.apply,hr,Frame.at])
     cases e with
     |returned v=>
      obtain⟨e,a',w₃,hq,harr⟩:=ih hR b k cs hkd;refine⟨e,a',w₃,hq,.of_steps (.head henter (hsteps.trans (.one ?_))) harr⟩
      grind[Go.step_leave_returned]
     |panicked chain=>grind
     |outgrown=>
      obtain⟨a₀,w₀,hq⟩:=hR
      grind
    ·rename_i row args w' hr
     obtain⟨v,w'',hR,hsteps⟩:=h (b.at a (.inRegion ops (i::(rest++r))::k)) cs;have henter:step P (lone (b.at a (.inRegion ops (i::(rest++r))::k)) cs w)=
       .next (lone (Frame.ofRow P row args .normal) (b.at a (.inRegion ops (i::(rest++r))::k)::cs) w'):=
      step_lone_go (by rw[hg];simp[stepG.apply,hr,Frame.at])
     obtain⟨e,a',w₃,hq,harr⟩:=ih hR b k cs hkd;refine⟨e,a',w₃,hq,.of_steps (.head henter ?_) harr⟩
     grind
    all_goals grind
   ·simp only[hw,if_false,Bool.false_eq_true]at h
    obtain⟨e,a',w',hq,harr⟩:=ih h b k cs hkd;have hs:=step_op_skip (P:=P) (b:=b) (a:=a) (k:=k) (cs:=cs) (w:=w) (ops:=ops) (i:=i) (rest:=rest++r)
     (by grind)
    simp only[ho,Option.bind_some]at hs;exact⟨e,a',w',hq,.of_steps (.one hs) harr⟩
theorem lH.comm{ops i rest o cases blocking shape v w'}(ho:ops[i]? =some o)(hw:Region.wanted o (yielded ops a.tmps)=true)(hr:(execOp a.eval o).run P w=.ok (.comm cases blocking shape) w)(hstep:∀fr cs es,stepG P true (G fr cs) w=.comm (G fr cs) cases blocking shape w es->step P (solo (G fr cs) w)=.next (solo (G (fr.finish v) cs) w'))(h:lH P ops rest Q (a.put o.dst v) w'):lH P ops (i::rest) Q a w:=by
 intro b k cs hk;obtain⟨e,a',w'',q,arr⟩:=h b k cs hk;refine⟨e,a',w'',q,.of_steps (.one ?_) arr⟩;have:=hstep _ cs _ (stepG_comm (main:=true) (k:=k) (cs:=cs) (rest:=rest) ho hw (by rw[hk];decide) hr);rw[Frame.finish_at,ho]at this;exact this
theorem U_{ops:List Oper}{Q'}(pre)(hp:ops.take pre.length=pre)(h:wpList P ops.toArray Q' pre a w):wpOps P ops.toArray Q' (List.range' 0 pre.length) a w:=by
 have key:∀(l:List Oper) (k:Nat),(∀j,j<l.length->l[j]? =ops.toArray[k+j]?)->wpOps P ops.toArray Q' (List.range' k l.length)=wpList P ops.toArray Q' l:=by
  intro l
  induction l with
  |nil=>simp[wpOps,wpList]
  |cons o l ih=>
   intro k h;have h0:ops.toArray[k]? =some o:=by simpa using(h 0 SI).symm
   have ih':=ih (k+1) (λj hj=>by have:=h (j+1) (by grind);grind);simp only[List.length_cons,List.range'_succ,wpOps,h0,wpList,ih']
 rw[key pre 0 (λj hj=>by
  grind)]
 exact h
theorem lH.list{ops:List Oper}(k l)(hl:ops.drop k=l)(h:wpList P ops.toArray Q l a w):lH P ops.toArray (List.range' k l.length) Q a w:=
 lH.ops (by rw[wpOps_eq_wpList l k (λj=>by grind)];exact h)
theorem lH.alf{ops:List Oper}(pre){r}(hp:ops.take pre.length=pre)(h:wpList P ops.toArray (λe a w=>e=.normal∧lH P ops.toArray r Q a w) pre a w):lH P ops.toArray (List.range' 0 pre.length++r) Q a w:=
 lH.pre _ (U_ pre hp h)
theorem lH.agw{ops:List Oper}(n){r}(h:wpList P ops.toArray (λe a w=>e=.normal∧lH P ops.toArray r Q a w) (ops.take n) a w):lH P ops.toArray (List.range' 0 (ops.take n).length++r) Q a w:=
 lH.alf _ (by grind) h
theorem qP{f fn c args R}(hf:P.funcs[f]? =some fn)(hb:fn.body=some c)
  (h:mH P c (bodyPost P fn R) {tmps:=args++Array.replicate (fn.ntmps-args.size) undef,defers:=[]} w):Calls P f args w R:=by
 intro cs
 let b:Frame:={(default:Frame)with fn:=f,kind:=.normal}
 have henter:Frame.enter P f args .normal=
   b.at {tmps:=args++Array.replicate (fn.ntmps-args.size) undef,defers:=[]} [.code c]:=by
  simp[Frame.enter,Frame.at,hf,hb,b]
 obtain⟨e,a',w',hq,harr⟩:=h b [] cs rfl;rw[<-henter]at harr;cases e with
 |normal=>
  obtain⟨hd,v,hr,hR⟩:=hq;exact⟨.returned v,w',_,hR,Steps.trans harr (.one step_end),rfl,rfl,hd,rfl,fn,hf,hr⟩
 |ret=>
  obtain⟨hd,v,hr,hR⟩:=hq;obtain⟨todo,hs⟩:=harr;exact⟨.returned v,w',_,hR,hs,rfl,rfl,hd,rfl,fn,hf,hr⟩
 |exit id=>exact hq.elim
 |goto l=>exact hq.elim
 |panic chain=>
  obtain⟨hd,hR⟩:=hq;obtain⟨todo,hs⟩:=harr;exact⟨.panicked chain,w',_,hR,hs,rfl,rfl,hd,fn,hf⟩
 |outgrown=>exact⟨.outgrown,w',b,hq,harr.resolve_left (by simp[b]),rfl,trivial⟩
end
end
namespace B
def kM(r1 w1 r2 w2:Int):Bool:=if r1=r2 then decide (w1<w2)else decide (r1<r2)
theorem Y9{r1 w1 r2 w2}(h:¬r1=r2):decide (r1<r2)=kM r1 w1 r2 w2:=by simp_all[B.kM]
theorem Y_{r1 w1 w2}:decide (w1<w2)=kM r1 w1 r1 w2:=by simp_all[B.kM]
theorem ML(w r1 w1 r2 w2):Calls prog 180 #[.agg #[.int .i64 r1,.int .i64 w1],.agg #[.int .i64 r2,.int .i64 w2]] w λe w'=>e=.returned (.bool (kM r1 w1 r2 w2))∧Below w.heap.size w w':=by
 by_cases h:r1=r2
 ·subst h
  go_enter func180,ntmps180
  go_wp2
  go_ret;exact⟨fD Y_,WT (WT (b0 w) _) _⟩
 ·have hb:(r1==r2)=false:=by simpa using h
  have hb2:(r1 != r2)=true:=by simpa using h
  go_enter func180,ntmps180
  go_wp2
  go_ret;exact⟨fD (Y9 h),WT (WT (b0 w) _) _⟩
def cB(ep vr vw oK r ww:Int):Bool:=decide (¬oK=ep) ||decide (r<1) ||kM r ww vr vw
theorem wH(w ep vr vw hr hw ck cw ch oK r ww):
  Calls prog 160 #[.agg #[.int .i64 ep,.int .i64 vr,.int .i64 vw,.int .i64 hr,.int .i64 hw,.int .i64 ck,.int .i64 cw,.int .i64 ch],.int .i64 oK,.agg #[.int .i64 r,.int .i64 ww]] w λe w'=>e=.returned (.bool (cB ep vr vw oK r ww))∧Below w.heap.size w w':=by
 by_cases h:oK=ep
 ·subst h
  by_cases h1:r<1
  ·go_enter func160,ntmps160
   go_wp2
   go_ret;exact⟨fD (by simp[cB,h1]),WT (WT (b0 w) _) _⟩
  ·have hd:decide (r<1)=false:=by simpa using h1
   go_enter func160,ntmps160;go_wp2_with(go_at_call 180;refine(ML _ _ _ _ _).mono ?_;rintro e w1 ⟨rfl,hw1⟩);go_ret;exact⟨fD (by simp[cB];intro h;omega),bup (WT (WT (b0 w) _) _) hw1⟩
 ·have hb:(oK==ep)=false:=by simpa using h
  have hb2:(oK != ep)=true:=by simpa using h
  go_enter func160,ntmps160
  go_wp2
  go_ret;exact⟨fD (by simp[cB,h]),WT (WT (b0 w) _) _⟩
def acc(ep vr vw hr hw ck cw ch:Int):List Value:=[.int .i64 ep,.int .i64 vr,.int .i64 vw,.int .i64 hr,.int .i64 hw,.int .i64 ck,.int .i64 cw,.int .i64 ch]
theorem adl(w0 ep vr vw hr hw ck cw ch oK r ww)(h:cB ep vr vw oK r ww=false):
  Calls prog 126 #[.agg #[.int .i64 ep,.int .i64 vr,.int .i64 vw,.int .i64 hr,.int .i64 hw,.int .i64 ck,.int .i64 cw,.int .i64 ch],.int .i64 oK,.agg #[.int .i64 r,.int .i64 ww]] w0 λe w'=>
   e=.returned (.tuple #[.agg #[.int .i64 ep,.int .i64 r,.int .i64 ww,.int .i64 hr,.int .i64 hw,.int .i64 ck,.int .i64 cw,.int .i64 ch],.bool true])∧Below w0.heap.size w0 w':=by
 have hI:=Inv.start w0;go_enter func126,ntmps126;go_wp2_with(first|(with_reducible refine dh hI RF MM (by first|with_reducible exact iB|with_reducible exact yz) SI ?_);simp only[List.drop_succ_cons,List.drop_zero,List.take_succ_cons,List.take_zero]|(with_reducible refine aR hI RF RF UU (by first|with_reducible exact iB.size|with_reducible exact yz.size) RF SI (by simp[Value.oneCell']) ?_);intro w hI;simp only[splice,List.drop_succ_cons,List.drop_zero,List.take_succ_cons,List.take_zero,List.length_cons,List.length_nil,Nat.zero_add,Nat.reduceAdd,List.nil_append,List.cons_append,List.append_nil,List.drop_nil]at hI|(with_reducible refine bX hI RF ?_);intro bx w hI|(with_reducible refine aN hI (by first|with_reducible exact Pg|with_reducible exact Ph) RF ?_);intro bx w hI|go_at_call 160;refine KD hI (wH _ _ _ _ _ _ _ _ _ _ _ _) ?_;intro w1 hI);exact W86
theorem agF(w0 ep vr vw hr hw ck cw ch oK r ww)(h:cB ep vr vw oK r ww=true):
  Calls prog 126 #[.agg #[.int .i64 ep,.int .i64 vr,.int .i64 vw,.int .i64 hr,.int .i64 hw,.int .i64 ck,.int .i64 cw,.int .i64 ch],.int .i64 oK,.agg #[.int .i64 r,.int .i64 ww]] w0 λe w'=>
   e=.returned (.tuple #[.agg #[.int .i64 ep,.int .i64 vr,.int .i64 vw,.int .i64 hr,.int .i64 hw,.int .i64 ck,.int .i64 cw,.int .i64 ch],.bool false])∧Below w0.heap.size w0 w':=by
 have hI:=Inv.start w0;go_enter func126,ntmps126;exact W12
theorem J_(w0 ep vr vw hr hw ck cw ch oK r ww k1 k2 k3)(h:cB ep vr vw oK r ww=false):
  Calls prog 179 #[.agg #[.int .i64 ep,.int .i64 vr,.int .i64 vw,.int .i64 hr,.int .i64 hw,.int .i64 ck,.int .i64 cw,.int .i64 ch],.int .i64 oK,.agg #[.int .i64 r,.int .i64 ww],.agg #[.int .i64 k1,.int .i64 k2,.int .i64 k3]] w0 λe w'=>
   e=.returned (.tuple #[.agg #[.int .i64 ep,.int .i64 r,.int .i64 ww,.int .i64 r,.int .i64 ww,.int .i64 k1,.int .i64 k2,.int .i64 k3],.bool true])∧Below w0.heap.size w0 w':=by
 have hI:=Inv.start w0;go_enter func179,ntmps179;go_wp2_with(first|(with_reducible refine dh hI RF MM (by first|with_reducible exact iB|with_reducible exact yz) SI ?_);simp only[List.drop_succ_cons,List.drop_zero,List.take_succ_cons,List.take_zero]|(with_reducible refine bX hI RF ?_);intro bx w hI|(with_reducible refine aN hI (by first|with_reducible exact Pg|with_reducible exact Ph) RF ?_);intro bx w hI|go_at_call 160;refine KD hI (wH _ _ _ _ _ _ _ _ _ _ _ _) ?_;intro w1 hI)
 (obtain⟨mE,rF⟩:=iO hI;refine aJ (C:=λw'=>Inv _ _ w' _) [4,6,8] (λw'=>Inv _ _ w' (List.eraseIdx (mE) 3)) hI.drew (λw' h=>Inv.sub h (by subst rF;((try simp only[xA]);repeat(first|exact List.Sublist.slnil|with_reducible apply List.Sublist.cons_cons|apply List.Sublist.cons)))) mixed KF ?_;subst rF;clear hI;(repeat(first| ((with_reducible apply dL);rfl;rfl;rfl;(focus(intro w (hI:Inv _ _ w _);go_wp2_with((with_reducible refine aR hI RF RF WQ (by first|with_reducible exact iB.size|with_reducible exact DZ.size) RF SI (by simp[Value.oneCell']) ?_);intro w hI;simp only[splice,List.drop_succ_cons,List.drop_zero,List.take_succ_cons,List.take_zero,List.length_cons,List.length_nil,Nat.zero_add,Nat.reduceAdd,List.nil_append,List.cons_append,List.append_nil,List.drop_nil]at hI);(try simp only[QN]);exact⟨rfl,rfl,hI⟩));(exact⟨undef,rfl⟩);(focus(intro w (hI:Inv _ _ w _);exact Inv.sub hI SB))) | ((with_reducible apply bu);rfl;rfl;(focus(intro w (hI:Inv _ _ w _);go_wp2_with((with_reducible refine dh hI RF a_ (by with_reducible exact iB) SI ?_);simp only[List.drop_succ_cons,List.drop_zero,List.take_succ_cons,List.take_zero]);(try simp only[QN]);exact⟨rfl,rfl,hI⟩));(exact⟨_,rfl⟩)) | ((with_reducible apply dG);rfl;rfl;(focus(intro D w hD hE;have hI:Inv _ _ w _:=hE;(try simp only[xA]at hI);go_wp2_with((with_reducible refine dh hI RF MM (by first|with_reducible exact iB|with_reducible exact DZ) SI ?_);simp only[List.drop_succ_cons,List.drop_zero,List.take_succ_cons,List.take_zero]);(try simp only[QN]);exact⟨rfl,rfl,hD⟩));(exact⟨_,rfl⟩))));(refine bH ?_;intro w (hI:Inv _ _ w _)))
 go_wp2_with(first|(with_reducible refine dh hI RF nz (by with_reducible exact yz) SI ?_);simp only[List.drop_succ_cons,List.drop_zero,List.take_succ_cons,List.take_zero]|(with_reducible refine aR hI RF RF jR (by with_reducible exact yz.size) RF SI (by simp[Value.oneCell']) ?_);intro w hI;simp only[splice,List.drop_succ_cons,List.drop_zero,List.take_succ_cons,List.take_zero,List.length_cons,List.length_nil,Nat.zero_add,Nat.reduceAdd,List.nil_append,List.cons_append,List.append_nil,List.drop_nil]at hI);exact W86
theorem PX(w0 ep vr vw hr hw ck cw ch oK r ww k1 k2 k3)(h:cB ep vr vw oK r ww=true):
  Calls prog 179 #[.agg #[.int .i64 ep,.int .i64 vr,.int .i64 vw,.int .i64 hr,.int .i64 hw,.int .i64 ck,.int .i64 cw,.int .i64 ch],.int .i64 oK,.agg #[.int .i64 r,.int .i64 ww],.agg #[.int .i64 k1,.int .i64 k2,.int .i64 k3]] w0 λe w'=>
   e=.returned (.tuple #[.agg #[.int .i64 ep,.int .i64 vr,.int .i64 vw,.int .i64 hr,.int .i64 hw,.int .i64 ck,.int .i64 cw,.int .i64 ch],.bool false])∧Below w0.heap.size w0 w':=by
 have hI:=Inv.start w0;go_enter func179,ntmps179;exact W12
end B
structure uE (w:World) (a:Option Addr) (len k:Nat) (row:Nat->List Int):Prop where
 reach:len<=140737488351232
 row:∀i,i<len->(row i).length=k∧(∀j,-9223372036854775808<=gi (row i) j∧gi (row i) j<=9223372036854775807)∧∃b off,a=some ⟨b,off,none⟩∧ng w b (off+i*k) ((row i).map (Value.int .i64))
theorem Ho.ints{w a len c k row}(h:Ho w a len c (List.replicate k O1) row):∃r,uE w a len k r:=by
 exact W28
theorem uE.later{w w0 a len k row m}(h:uE w0 a len k row)(hI:Inv [] w0 w m):uE w a len k row:=
 ⟨h.reach,λi hi=>⟨(h.row i hi).1,(h.row i hi).2.1,by
  grind[uE.row,ng.later]⟩⟩
