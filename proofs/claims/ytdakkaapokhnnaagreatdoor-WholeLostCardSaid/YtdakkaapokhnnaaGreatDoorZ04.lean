/- Contracts of functions. No condition. -/
import Derived.Test.YtdakkaapokhnnaaGreatDoorRows
import Derived.Test.YtdakkaapokhnnaaGreatDoorZ02
namespace Go.Proofs.YtdakkaapokhnnaaGreatDoor
open Go.RowKit Go.Proofs.Tryz
set_option maxRecDepth 100000
set_option maxHeartbeats 6400000
set_option linter.all false
theorem Fv(a:Nat)(ha:a<9223372036854775808):(BitVec.ofInt 64 (a:Int)).toNat=a:=by
 rw[BitVec.ofInt_natCast,BitVec.toNat_ofNat];exact Nat.mod_eq_of_lt OM
theorem Hg(r:Nat)(h:r<9223372036854775808):IntKind.i64.wrap (r:Int)=(r:Int):=by
 exact acP
theorem Cx(a b:Nat)(ha:a<9223372036854775808)(hb:b<9223372036854775808):bits .or .i64 (a:Int) (b:Int)=((a ||| b:Nat):Int):=by
 show IntKind.i64.wrap ((BitVec.ofInt 64 (a:Int) ||| BitVec.ofInt 64 (b:Int)).toNat:Int)=_;rw[BitVec.toNat_or,Fv a ha,Fv b hb];exact Hg _ (Nat.or_lt_two_pow (n:=63) OM OM)
def st1(s:UInt32):UInt32:=if s &&& 1=1 then(s>>>1) ^^^3988292384 else s>>>1
def stn:Nat->UInt32->UInt32
 |0,s=>s
 |n+1,s=>stn n (st1 s)
def sI(s:UInt32)(c:UInt8):UInt32:=stn 8 (s^^^c.toUInt32)
def Bf(s:UInt32)(bs:List UInt8):UInt32:=bs.foldl sI s
def Zh(w:World)(a:Option Addr)(bs:List UInt8):Prop:=bs≠[]->∃b off,a=some ⟨b,off,none⟩∧∀i (h:i<bs.length),w.cell? ⟨b,off+i,none⟩=some (.int .u8 (bs[i].toNat:Int))
structure Part where
 a:Option Addr
 cap:Nat
 bs:List UInt8
def Parts(w:World)(a:Option Addr)(ps:List Part):Prop:=ps≠[]->∃b off,a=some ⟨b,off,none⟩∧∀i (h:i<ps.length),w.cell? ⟨b,off+i,none⟩=some (.slice ps[i].a ps[i].bs.length ps[i].cap)∧Zh w ps[i].a ps[i].bs∧ps[i].bs.length<=maxLen
def Hm(s:UInt32)(ps:List Part):UInt32:=ps.foldl (λs p=>Bf s p.bs) s
theorem xG(a b:UInt32):bits .xor .u32 (a.toNat:Int) (b.toNat:Int)=((a^^^b).toNat:Int):=by
 rw[u32_xor_nat a.toNat b.toNat (by have:=a.toNat_lt;omega) (by have:=b.toNat_lt;omega)];simp
theorem MP(a b:UInt32):bits .and .u32 (a.toNat:Int) (b.toNat:Int)=((a &&& b).toNat:Int):=by
 rw[u32_and_nat a.toNat b.toNat (by have:=a.toNat_lt;omega) (by have:=b.toNat_lt;omega)];simp
theorem yI(a:UInt32):bits .and .u32 (a.toNat:Int) 1=((a &&& 1).toNat:Int):=MP a 1
theorem Pb(a:UInt32):(a.toNat:Int) / (2:Int)=((a>>>1).toNat:Int):=by simp[Nat.shiftRight_eq_div_pow]
theorem Zi(s:UInt32)(h:s &&& 1=1):bits .xor .u32 ((s.toNat:Int) /2) 3988292384=((st1 s).toNat:Int):=by
 rw[Pb,st1,if_pos h];exact xG (s>>>1) 3988292384
theorem Uz(s:UInt32)(h:¬s &&& 1=1):((s.toNat:Int) /2)=((st1 s).toNat:Int):=by
 rw[Pb,st1,if_neg h]
theorem UA(s:UInt32)(h:s &&& 1=1):(bits BinOp.and IntKind.u32 (s.toNat:Int) 1==1)=true:=by
 rw[yI,h];rfl
theorem Q0(s:UInt32)(h:¬s &&& 1=1):(bits BinOp.and IntKind.u32 (s.toNat:Int) 1==1)=false:=by
 rw[yI];rw[beq_eq_false_iff_ne];intro h2;apply h;apply UInt32.toNat_inj.1;have:((1:UInt32).toNat:Int)=1:=rfl;omega
theorem afR(a:UInt32):bits .xor .u32 4294967295 (a.toNat:Int)=((~~~ a).toNat:Int):=by
 have:=xG 4294967295 a;rw[show((4294967295:UInt32).toNat:Int)=4294967295 from rfl]at this;rw[this];congr 2
theorem c32(c:UInt8):((c.toNat:Int) %4294967296)=(c.toUInt32.toNat:Int):=by
 have:=c.toNat_lt;simp;omega
theorem UB(m:Nat)(h:m<8)(s:UInt32):stn (8-m) s=stn (8- (m+1)) (st1 s):=by
 rw[show 8-m=(8- (m+1))+1 from by omega,stn]
theorem Q3(s:UInt32)(bs:List UInt8)(j:Nat)(h:j<bs.length):Bf s (bs.take (j+1))=sI (Bf s (bs.take j)) bs[j]:=by
 rw[List.take_succ_eq_append_getElem h,Bf,List.foldl_append];rfl
theorem Q4(s:UInt32)(ps:List Part)(j:Nat)(h:j<ps.length):Hm s (ps.take (j+1))=Bf (Hm s (ps.take j)) ps[j].bs:=by
 rw[List.take_succ_eq_append_getElem h,Hm,List.foldl_append];rfl
def crc(bs:List UInt8):UInt32:= ~~~ (Bf 0xFFFFFFFF bs)
def flat(ps:List Part):List UInt8:=ps.flatMap (·.bs)
theorem Zj(s:UInt32)(ps:List Part):Hm s ps=Bf s (flat ps):=by
 induction ps generalizing s with
 |nil=>rfl
 |cons p ps ih=>simp only[Hm,List.foldl_cons,flat,List.flatMap_cons,Bf,List.foldl_append]at*;exact ih _
theorem Zk(ps:List Part):bits .xor .u32 IntKind.u32.max ((Hm 0xFFFFFFFF ps).toNat:Int)=((crc (flat ps)).toNat:Int):=by
 show bits .xor .u32 4294967295 _=_;rw[afR,Zj];rfl
def bv(c:UInt8):Value:=.int .u8 (c.toNat:Int)
theorem xH(bs:List UInt8):∀u∈bs.map bv,u.oneCell'=true:=by
 intro u hu;obtain⟨_,_,rfl⟩:=List.mem_map.1 hu;rfl
theorem addr_add(b off i:Nat):(⟨b,off,none⟩:Addr).add i=⟨b,off+i,none⟩:=by
 unfold Addr.add;split
 ·subst_vars;rfl
 ·rfl
theorem Zh.cells{w:World}{a:Addr}{bs:List UInt8}(h:Zh w (some a) bs):∀j u,(bs.map bv)[j]? =some u->w.cell? (a.add j)=some u:=by
 intro j u hu;rw[List.getElem?_map]at hu;obtain⟨c,hc,rfl⟩:=Option.map_eq_some_iff.1 hu;obtain⟨hj,rfl⟩:=List.getElem?_eq_some_iff.1 hc;obtain⟨b,off,hab,hcell⟩:=h (by intro h;subst h;simp at hj);obtain rfl:=Option.some.inj hab;rw[addr_add];exact hcell j hj
theorem Zh.below{w w':World}{a:Option Addr}{bs:List UInt8}(h:Zh w a bs)(hb:Below w.heap.size w w'):Zh w' a bs:=by
 intro hn;obtain⟨b,off,hab,hc⟩:=h hn;refine⟨b,off,hab,λi hi=>?_⟩;have:=hc i hi;exact(hb.cell (World.block_lt_of_cell? _ _ this)).trans this
def Own(w:World)(base:Nat)(v:Value)(bs:List UInt8):Prop:=w.ownsRow base 5 1 v bs.length (bs.map bv)
theorem Own.val{w:World}{base:Nat}{v:Value}{bs:List UInt8}(h:Own w base v bs):∃a cap,v=.slice a bs.length cap∧Zh w a bs∧bs.length<=maxLen∧bs.length<=cap∧cap<=maxLen∧(a=none->bs=[]∧cap=0)∧∀x,a=some x->base<=x.block∧x.block<w.heap.size∧x=⟨x.block,0,none⟩:=by
 rcases h with⟨h1,⟨rfl,h0⟩ | ⟨g,cap,cur,rfl,hg,hh,hc,hm,hs,ht⟩⟩
 ·have:bs=[]:=List.eq_nil_of_length_eq_zero h0
  subst this;exact⟨none,0,rfl,λh=>absurd rfl h,Nat.zero_le _,Nat.le_refl _,Nat.zero_le _,λ_=>⟨rfl,rfl⟩,λ_ h=>(nomatch h)⟩
 ·have hlt:=(Array.getElem?_eq_some_iff.1 hh).1
  refine⟨_,cap,rfl,λ_=>⟨g,0,rfl,λi hi=>?_⟩,Nat.le_trans hc hm,hc,hm,λh=>(nomatch h),λx hx=>?_⟩
  ·simp only[Nat.zero_add]
   rw[cell_of_row w g i cur 5 (0,0) hh];have:(bs.map bv)[i]? =some (bv bs[i]):=by simp[hi]
   rw[<-ht,List.getElem?_take]at this
   split at this
   ·simpa[bv]using this
   ·cases this
  ·obtain rfl:=Option.some.inj hx
   exact⟨hg,hlt,rfl⟩
theorem Own.kept{w w':World}{base:Nat}{v:Value}{bs:List UInt8}(h:Own w base v bs)(hb:Below w.heap.size w w'):Own w' base v bs:=by
 refine⟨h.1,?_⟩;rcases h.2 with h0| ⟨g,cap,cur,rfl,hg,hh,hc,hm,hs,ht⟩
 ·exact .inl h0
 ·exact .inr ⟨g,cap,cur,rfl,hg,(hb.block g (Array.getElem?_eq_some_iff.1 hh).1).trans hh,hc,hm,hs,ht⟩
theorem Own.nil(w:World)(base:Nat):Own w base (.slice none 0 0) []:=World.ownsRow_nil w base 5 1
structure UC (w:World) (a:Option Addr) (c:Nat) (bs:List UInt8):Prop where
 bys:Zh w a bs
 nil:a=none->c=0
 le:bs.length<=c
 reach:c<=140737488351232
theorem UC.below{w w':World}{a:Option Addr}{c:Nat}{bs:List UInt8}(h:UC w a c bs)(hb:Below w.heap.size w w'):UC w' a c bs:=
 ⟨h.bys.below hb,h.nil,h.le,h.reach⟩
section
open Go.MapKept (IsKey)
structure Bg (es:Array MapEntry) (f:Int->Option Value):Prop where
 keys:∀(i:Nat) (x:MapEntry),es[i]? =some x->∃k,x.key=.int .i64 k
 inj:∀(i j:Nat) (x y:MapEntry),es[i]? =some x->es[j]? =some y->x.key=y.key->i=j
 at_:∀k v,f k=some v↔∃(i:Nat) (x:MapEntry),es[i]? =some x∧x.key=.int .i64 k∧x.val=v
def mpr(r:Nat)(f:Int->Option Value):aG:=
 ⟨[r],λw=>∃es clock,w.heap[r]? =some (.map es clock)∧Bg es f,λw w' h hs=>by
  obtain⟨es,clock,h1,h2⟩:=hs;exact⟨es,clock,by rw[h r SI];exact h1,h2⟩⟩
theorem Bg.empty:Bg #[] (λ_=>none):=⟨by simp,by simp,by simp⟩
theorem mF(k:Int):IsKey (.int .i64) (.int .i64 k):=by simp[IsKey]
theorem Bg.isKey{es:Array MapEntry}{f:Int->Option Value}(h:Bg es f):∀x∈es.toList,IsKey (.int .i64) x.key:=by
 intro x hx;obtain⟨i,hi⟩:=List.getElem?_of_mem hx;obtain⟨k,hk⟩:=h.keys i x (by simpa using hi);rw[hk];exact mF k
theorem Bg.push{es:Array MapEntry}{f:Int->Option Value}(h:Bg es f){k:Int}(hk:∀x∈es.toList,x.key≠ .int .i64 k)(v:Value)(b:Nat):Bg (es.push ⟨.int .i64 k,v,b⟩) (λj=>if j=k then some v else f j):=by
 have hk2:∀(i:Nat) (x:MapEntry),es[i]? =some x->x.key≠ .int .i64 k:=λi x hx=>hk x (List.mem_of_getElem? (by simpa using hx))
 have hlt:∀(i:Nat) (x:MapEntry),es[i]? =some x->i≠es.size:=λi x hx he=>by
  have:=(Array.getElem?_eq_some_iff.1 hx).1;omega
 refine⟨λi x hx=>?_,λi j x y hx hy he=>?_,λj u=>?_⟩
 ·rw[Array.getElem?_push]at hx
  split at hx
  ·cases hx;exact⟨k,rfl⟩
  ·exact h.keys i x hx
 ·rw[Array.getElem?_push]at hx hy
  split at hx
  ·split at hy
   ·omega
   ·cases hx
    exact absurd he.symm (hk2 j y hy)
  ·split at hy
   ·cases hy
    exact absurd he (hk2 i x hx)
   ·exact h.inj i j x y hx hy he
 ·constructor
  ·intro hf
   by_cases hjk:j=k
   ·rw[if_pos hjk]at hf
    cases hf;exact⟨es.size,⟨.int .i64 k,v,b⟩,by simp,by rw[hjk],rfl⟩
   ·rw[if_neg hjk]at hf
    obtain⟨i,x,h1,h2,h3⟩:=(h.at_ j u).1 hf;exact⟨i,x,by rw[Array.getElem?_push,if_neg (hlt i x h1)];exact h1,h2,h3⟩
  ·rintro⟨i,x,h1,h2,h3⟩
   rw[Array.getElem?_push]at h1
   split at h1
   ·cases h1
    exact afO
   ·have hjk:j≠k:=by
     rintro rfl;exact hk2 i x h1 h2
    rw[if_neg hjk];exact(h.at_ j u).2 ⟨i,x,h1,h2,h3⟩
theorem Bg.modify{es:Array MapEntry}{f:Int->Option Value}(h:Bg es f){k:Int}{n:Nat}{e:MapEntry}(hn:es[n]? =some e)(he:e.key=.int .i64 k)(v:Value):Bg (es.modify n λe=>{e with key:=.int .i64 k,val:=v}) (λj=>if j=k then some v else f j):=by
 have hget:∀i:Nat,(es.modify n λe=>{e with key:=.int .i64 k,val:=v})[i]? =if n=i then(es[i]?).map (λe=>{e with key:=.int .i64 k,val:=v})else es[i]? :=λi=>by
  rw[Array.getElem?_modify]
 have hkey:∀(i:Nat) (x:MapEntry),(es.modify n λe=>{e with key:=.int .i64 k,val:=v})[i]? =some x->∃y,es[i]? =some y∧x.key=y.key:=by
  intro i x hx;rw[hget]at hx
  split at hx
  ·rename_i hni
   subst hni;rw[hn]at hx;cases hx;exact⟨e,hn,he.symm⟩
  ·exact⟨x,hx,rfl⟩
 refine⟨λi x hx=>?_,λi j x y hx hy hxy=>?_,λj u=>?_⟩
 ·obtain⟨y,h1,h2⟩:=hkey i x hx
  rw[h2];exact h.keys i y h1
 ·obtain⟨x',h1,h2⟩:=hkey i x hx
  obtain⟨y',h3,h4⟩:=hkey j y hy;exact h.inj i j x' y' h1 h3 (by rw[<-h2,<-h4];exact hxy)
 ·constructor
  ·intro hf
   by_cases hjk:j=k
   ·rw[if_pos hjk]at hf
    cases hf;exact⟨n,{e with key:=.int .i64 k,val:=v},by rw[hget,if_pos rfl,hn];rfl,by rw[hjk],rfl⟩
   ·rw[if_neg hjk]at hf
    obtain⟨i,x,h1,h2,h3⟩:=(h.at_ j u).1 hf;refine⟨i,x,?_,h2,h3⟩;rw[hget,if_neg]
    ·exact h1
    ·rintro rfl
     rw[hn]at h1;cases h1;rw[he]at h2;exact hjk (by simpa using h2.symm)
  ·rintro⟨i,x,h1,h2,h3⟩
   rw[hget]at h1
   split at h1
   ·rename_i hni
    subst hni;rw[hn]at h1;cases h1;exact afO
   ·rename_i hni
    have hjk:j≠k:=by
     rintro rfl;exact hni (h.inj n i e x hn h1 (by rw[he,h2]))
    rw[if_neg hjk];exact(h.at_ j u).2 ⟨i,x,h1,h2,h3⟩
section
variable {P:Program}{ops:Array Oper}{Q:Exit->Act->World->Prop}{a:Act}{rest:List Oper}{T:List Nat}{w0 w:World}{m m':List aG}{dst:Option Tmp}{ty:TypeId}{pos:String}{af:Array Edge}
def acU(P:Program)(t kt et:TypeId):Prop:=P.underlying t=some (.map kt et)∧P.underlying kt=some (.int .i64)
theorem CF{t:TypeId}(hI:Inv T w0 w m)
  (k:∀r w',Inv T w0 w' (mpr r (λ_=>none)::m)->wpList P ops Q rest (a.put dst (.map (some r))) w'):wpList P ops Q (⟨dst,.makeMap t none,ty,pos,af,none⟩::rest) a w:=
 wpList_plain rfl λK hK=>by
  have hr:(Instr.makeMap t none).run P w=.ok (.map (some w.heap.size)) (w.alloc (.map #[] 0)):=rfl;unfold Oper.wp execOp;simp only[Option.map_none,Sem.run_bind,hr,Result.andThen_ok,Sem.run_pure];refine hK _ _ (k w.heap.size (w.alloc (.map #[] 0)) ?_);have hsz:(w.alloc (.map #[] 0)).heap.size=w.heap.size+1:=by show(w.heap.push _).size=_;simp
  exact hI.new ⟨rfl,rfl,rfl,by omega,λj hj _=>(MapKept.heap_alloc w _).2 j hj⟩ ⟨#[],0,(MapKept.heap_alloc w _).1,Bg.empty⟩ (by intro i hi;simp[mpr]at hi;omega) (by simp[mpr])
theorem ML{t kt et:TypeId}{r:Nat}{f:Int->Option Value}{z:Value}(hT:acU P t kt et)(hz:(P.info? et).map (·.zero)=some (some z))(hs:(mpr r f).sat w)(j:Int)(c:Bool):
  (Instr.lookup t (.map (some r)) (.int .i64 j) c).run P w=.ok (if c then .tuple #[(f j).getD z,.bool (f j).isSome]else(f j).getD z) w:=by
 obtain⟨es,clock,hb,hM⟩:=hs;obtain⟨inf,zM,hz'⟩:=Option.map_eq_some_iff.1 hz;have hzv:(zeroValue et).run P w=.ok z w:=by simp[zeroValue,typeInfo,zM,hz']
 rcases MapKept.findNow_spec (mF j) es.toList 0 hM.isKey with⟨h1,h2⟩ | ⟨i,e,h1,h2,h3⟩
 ·have hf:f j=none:=by
   cases hf:f j with
   |none=>rfl
   |some v=>
    obtain⟨i,x,hx,hk,_⟩:=(hM.at_ j v).1 hf;exact absurd hk (h2 x (List.mem_of_getElem? (by simpa using hx)))
  simp[Instr.lookup,run_underlying hT.1,MapKept.run_getObj_map hb,MapKept.run_checkKey hT.2 (mF j),MapKept.run_findKey hT.2 h1,Result.andThen,hzv,hf]
 ·have hf:f j=some e.val:=(hM.at_ j e.val).2 ⟨i,e,by simpa using h2,h3,rfl⟩
  simp[Instr.lookup,run_underlying hT.1,MapKept.run_getObj_map hb,MapKept.run_checkKey hT.2 (mF j),MapKept.run_findKey hT.2 h1,Result.andThen,hf]
theorem zO{x y u:Operand}{t kt et:TypeId}{r:Nat}{f:Int->Option Value}{j:Int}{v:Value}(hI:Inv T w0 w m)(hx:a.eval x=.map (some r))(hy:a.eval y=.int .i64 j)(hu:a.eval u=v)(hT:acU P t kt et)(hup:aR (mpr r f) (mpr r (λi=>if i=j then some v else f i)) m m')
  (k:∀w',Inv T w0 w' m'->wpList P ops Q rest (a.put dst undef) w'):wpList P ops Q (⟨dst,.mapUpdate t x y u,ty,pos,af,none⟩::rest) a w:=
 wpList_plain rfl λK hK=>by
  have hs:(mpr r f).sat w:=by
   obtain⟨m1,m2,rfl,_⟩:=hup.split;exact hI.sat _ SI
  obtain⟨es,clock,hb,hM⟩:=hs;have step:∀o:Obj,Step [r] w {w with heap:=w.heap.setIfInBounds r o}:=λo=>⟨rfl,rfl,rfl,by simp,λi _ hi=>(MapKept.heap_set hb).2 i (by simpa using hi)⟩
  rcases MapKept.findNow_spec (mF j) es.toList 0 hM.isKey with⟨h1,h2⟩ | ⟨i,e,h1,h2,h3⟩
  ·have hr:(Instr.mapUpdate t (.map (some r)) (.int .i64 j) v).run P w=.ok () {w with heap:=w.heap.setIfInBounds r (.map (es.push ⟨.int .i64 j,v,clock⟩) (clock+1))}:=by
    simp[Instr.mapUpdate,run_underlying hT.1,MapKept.run_getObj_map hb,MapKept.run_checkKey hT.2 (mF j),MapKept.run_findKey hT.2 h1,MapKept.run_setObj_map _ hb,Result.andThen]
   unfold Oper.wp execOp;simp only[hx,hy,hu,Sem.run_bind,hr,Result.andThen_ok,Sem.run_pure];refine hK _ _ (k _ ?_);exact hI.upd hup (step _) ⟨_,_,(MapKept.heap_set hb).1,hM.push h2 v clock⟩ (λi hi=> .inl hi) (by simp[mpr])
  ·have hj:es[i]? =some e:=by simpa using h2
   have hr:(Instr.mapUpdate t (.map (some r)) (.int .i64 j) v).run P w=.ok () {w with heap:=w.heap.setIfInBounds r (.map (es.modify i λe=>{e with key:=.int .i64 j,val:=v}) clock)}:=by
    simp[Instr.mapUpdate,run_underlying hT.1,MapKept.run_getObj_map hb,MapKept.run_checkKey hT.2 (mF j),MapKept.run_findKey hT.2 h1,hj,h3,MapKept.run_keyThatStays (mF j),MapKept.run_setObj_map _ hb,Result.andThen]
   unfold Oper.wp execOp;simp only[hx,hy,hu,Sem.run_bind,hr,Result.andThen_ok,Sem.run_pure];refine hK _ _ (k _ ?_);exact hI.upd hup (step _) ⟨_,_,(MapKept.heap_set hb).1,hM.modify hj h3 v⟩ (λi hi=> .inl hi) (by simp[mpr])
end
end

theorem xc{w w':World}{row:Option Nat}(h:w.grownBy w' row):Step row.toList w w':=
 ⟨h.os,h.tape,h.output,h.size,λk hk hn=>h.block k hk (λe=>hn (by subst e;simp))⟩
theorem Q5{w:World}{a:Option Addr}{bs:List UInt8}(h:Rd w a (bs.map bv)):Zh w a bs:=by
 intro hn;cases bs with
 |nil=>exact absurd rfl hn
 |cons c cs=>
  obtain⟨b,off,hab,_⟩:=h 0 (bv c) rfl;refine⟨b,off,hab,λi hi=>?_⟩;obtain⟨b',off',hab',hc⟩:=h i (bv (c::cs)[i]) (by rw[List.getElem?_map,List.getElem?_eq_getElem hi];rfl);rw[hab]at hab';cases hab';exact hc
theorem Jn{w:World}{a:Option Addr}{ps:List Part}(h:Rd w a (ps.map λp=> .slice p.a p.bs.length p.cap))(hp:∀p∈ps,Rd w p.a (p.bs.map bv)∧p.bs.length<=maxLen):Parts w a ps:=by
 intro hn;cases ps with
 |nil=>exact absurd rfl hn
 |cons p qs=>
  obtain⟨b,off,hab,_⟩:=h 0 _ rfl;refine⟨b,off,hab,λi hi=>?_⟩;obtain⟨b',off',hab',hc⟩:=h i (.slice (p::qs)[i].a (p::qs)[i].bs.length (p::qs)[i].cap) (by rw[List.getElem?_map,List.getElem?_eq_getElem hi];rfl);rw[hab]at hab';cases hab';have:=hp (p::qs)[i] (List.getElem_mem _);exact⟨hc,Q5 this.1,this.2⟩
theorem vX{w:World}{a' a:Option Addr}{c:Nat}{bs:List UInt8}(h:Rd w a' [.slice a bs.length c])(hr:Rd w a (bs.map bv))(hl:bs.length<=maxLen):Parts w a' [⟨a,c,bs⟩]:=
 Jn h (λp hp=>by obtain rfl:=List.mem_singleton.1 hp;exact⟨hr,hl⟩)
section
variable {P:Program}{ops:Array Oper}{Q:Exit->Act->World->Prop}{a:Act}{rest:List Oper}{T:List Nat}{w0 w:World}{m m':List aG}{dst:Option Tmp}{ty:TypeId}{pos:String}{af:Array Edge}
theorem Ho{t e size bytes c:Nat}{kl kc:IntKind}{z:Value}{x y:Operand}(hI:Inv T w0 w m)(hT:uY P t e size bytes z)(hx:a.eval x=.int kl 0)(hy:a.eval y=.int kc (c:Int))(hb:bytes*c<=281474976710656)(h63:c<=maxLen)
  (k:∀b w',Inv T w0 w' (bf e size (.slice (some ⟨b,0,none⟩) 0 c) 0 []::m)->wpList P ops Q rest (a.put dst (.slice (some ⟨b,0,none⟩) 0 c)) w'):
  wpList P ops Q (⟨dst,.makeSlice t x y,ty,pos,af,none⟩::rest) a w:=
 wpList_plain rfl λK hK=>by
  obtain⟨i,hi,hz,rfl,rfl⟩:=hT.info;obtain⟨w',hr,ho,hg⟩:=run_make_own (P:=P) w 0 t e i z i.size hT.und hi hz rfl kl kc c hb h63 (Nat.zero_le _);unfold Oper.wp execOp;simp only[hx,hy,Sem.run_bind,hr,Result.andThen_ok,Sem.run_pure];refine hK _ _ (k w.heap.size w' (hI.new (xc hg) ho ?_ ?_))
  ·intro j hj
   have hj:j=w.heap.size:=by simpa[bf,Value.ownBlock]using hj
   subst hj;have:=ho.lt w.heap.size rfl;exact⟨Nat.le_refl _,this.2⟩
  ·simp[bf,Value.ownBlock]
theorem nk{t e size bytes:Nat}{z:Value}(hI:Inv T w0 w m)(hT:uY P t e size bytes z)
  (k:∀b w',Inv T w0 w' (bf e size (.slice (some ⟨b,0,none⟩) 0 0) 0 []::m)->wpList P ops Q rest (a.put dst (.slice (some ⟨b,0,none⟩) 0 0)) w'):
  wpList P ops Q (⟨dst,.buildSlice t 0 #[],ty,pos,af,none⟩::rest) a w:=
 wpList_plain rfl λK hK=>by
  obtain⟨i,hi,hz,rfl,rfl⟩:=hT.info;unfold Oper.wp execOp;have hrun:(Instr.buildSlice t 0 ((#[]:Array (Nat×Operand)).map λ(i,x)=>(i,a.eval x))).run P w=.ok (.slice (some ⟨w.heap.size,0,none⟩) 0 0) (w.alloc (.cells #[] e)):=by
   simp only[Instr.buildSlice,Sem.run_bind,run_underlying hT.und,Result.andThen_ok,dH (show(P.info? e).map (·.size)=some i.size by rw[hi];rfl),Nat.zero_mul,Nat.not_lt_zero,gt_iff_lt,if_false,if_true,Sem.run_pure,Array.map_empty];rw[show Array.range 0=#[]from by decide];simp only[Array.map_empty,Instr.fill];rfl
  simp only[Sem.run_bind,hrun,Result.andThen_ok,Sem.run_pure];refine hK _ _ (k w.heap.size _ ?_);refine hI.new ⟨rfl,rfl,rfl,by simp,λk hk _=>_root_.Go.heap_alloc_old w _ hk⟩ ?_ (by simp[bf,Value.ownBlock]) (by simp[bf,Value.ownBlock]);exact⟨by simp,.inr ⟨w.heap.size,0,#[],rfl,Nat.zero_le _,heap_alloc_new w _,Nat.le_refl _,Nat.zero_le _,by simp,by simp⟩⟩
end
section
variable {P:Program}{ops:Array Oper}{Q:Exit->Act->World->Prop}{md:Region.Mode}{C:World->Prop}
def Ph(Q:Exit->Act->World->Prop):Exit->Act->World->Prop:=λe a w=>∃c,e=.panic c∧Q (.panic c) a w
theorem UO{c:List PanicEntry}{a:Act}{w:World}(h:Q (.panic c) a w):Ph Q (.panic c) a w:=⟨c,rfl,h⟩
theorem Js{o:Oper}{a:Act}{w:World}{K:Act->World->Prop}(hw:Region.wanted o (yielded ops a.tmps)=true)(h:wpList P ops (Ph Q) [o] a w):o.wp P a w K Q:=by
 unfold wpList at h;rw[if_pos hw]at h;rcases h with h| ⟨_,a',w',h⟩
 ·unfold Oper.wp at h|-
  generalize(execOp a.eval o).run P w=r at h;have one:∀a w,wpList P ops (Ph Q) [] a w->False:=λa w hh=>by obtain⟨_,he,_⟩:=hh;cases he
  cases r with
  |ok n w'=>
   cases n<;>simp only[Oper.upon]at h|-
   case value u=>exact(one _ _ h).elim
   case skip=>exact(one _ _ h).elim
   case defer d=>exact(one _ _ h).elim
   case enter f args=>
    refine h.mono λe w'' hh=>?_
    cases e with
    |returned u=>exact(one _ _ hh).elim
    |panicked c=>obtain⟨_,he,hq⟩:=hh;cases he;exact hq
    |outgrown=>obtain⟨_,_,hh⟩:=hh;obtain⟨_,he,_⟩:=hh;cases he
   case row r args=>exact h.mono λu w'' hh=>(one _ _ hh).elim
  |halt x w'=>cases x<;>simp only[Oper.upon]at h|-<;>(obtain⟨_,he,hq⟩:=h;cases he;exact hq)
 ·obtain⟨_,he,_⟩:=h;cases he
theorem MV{l:List Oper}{i:Nat}{o:Oper}{fuel:Nat}{listed:Array Bool}{a:Act}{w:World}(ho:l[i]? =some o)(hw:Region.wanted o (yielded l.toArray a.tmps)=true)
  (h:wpList P l.toArray (Ph Q) [o] a w):wpOp P l.toArray Q i (qf C P md l.toArray Q fuel (listed.setIfInBounds i true)) a w:=by
 unfold wpOp;rw[show l.toArray[i]? =some o by simpa using ho];simp only;rw[if_pos hw];exact .inl (Js hw h)
end
namespace A
def Rb:List UInt8->Nat
 | []=>0
 |c::bs=>c.toNat+256*Rb bs
theorem Pn:∀ {a b:List UInt8},a.length=b.length->Rb a=Rb b->a=b
 | [],[],_,_=>rfl
 |c::a,d::b,hl,h=>by
  have h1:=c.toNat_lt;have h2:=d.toNat_lt;simp only[Rb]at h;have e:c.toNat=d.toNat:=by omega
  have e1:c=d:=UInt8.toNat_inj.1 e;have e2:a=b:=Pn (by simpa using hl) OM;rw[e1,e2]
def le4(s:UInt32):List UInt8:=[s.toUInt8,(s>>>8).toUInt8,(s>>>16).toUInt8,(s>>>24).toUInt8]
theorem Zp(s:UInt32):Rb (le4 s)=s.toNat:=by
 have:=s.toNat_lt;simp only[Rb,le4,UInt32.toNat_toUInt8,UInt32.toNat_shiftRight];rw[show(8:UInt32).toNat %32=8 from rfl,show(16:UInt32).toNat %32=16 from rfl,show(24:UInt32).toNat %32=24 from rfl];simp only[Nat.shiftRight_eq_div_pow];omega
def xJ(b:List UInt8):List UInt8:=b++le4 (crc b)
def kI(p:List UInt8):Option (List UInt8):=if 4<=p.length∧(crc (p.take (p.length-4))).toNat=Rb (p.drop (p.length-4))then some (p.take (p.length-4))else none
theorem Po(s:UInt32):(le4 s).length=4:=rfl
theorem ny(b:List UInt8):(xJ b).length=b.length+4:=by simp[xJ,le4]
theorem sN{p t:List UInt8}(h:kI p=some t):xJ t=p:=by
 unfold kI at h
 split at h
 ·rename_i hc
  obtain⟨h4,hs⟩:=hc;obtain rfl:=Option.some.inj h;have:le4 (crc (p.take (p.length-4)))=p.drop (p.length-4):=Pn (by rw[Po,List.length_drop];omega) (by rw[Zp,hs]);rw[xJ,this,List.take_append_drop]
 ·cases h
end A
namespace A
theorem Ht(w:World)(a:Option Addr)(ps:List Part)(cap:Nat)(hps:Parts w a ps)(hl:ps.length<=maxLen):Calls prog 177 #[.slice a ps.length cap] w λe w'=>e=.returned (.int .u32 ((crc (flat ps)).toNat:Int))∧w'=w:=by
 unfold maxLen at hl;go_enter func177,ntmps177
 go_wp2
 go_loop [3,10] (λrest i=>∃(k:Nat),k<=ps.length∧i=.int .i64 k∧rest=.int .u32 ((Hm 0xFFFFFFFF (ps.take k)).toNat:Int)) (λ_ i=>ps.length- (intOf i).toNat)
 case atStart=>exact⟨0,by omega,rfl,rfl⟩
 case round=>
  obtain⟨k,hk,rfl,rfl⟩:=hrel;by_cases hlt:k<ps.length
  ·obtain⟨b,off,rfl,hc⟩:=hps (by intro h;subst h;simp at hlt)
   obtain⟨hc1,hb,hbl⟩:=hc k hlt;unfold maxLen at hbl;have hfin:=Q4 0xFFFFFFFF ps k hlt;clear hc hps;generalize Hm 0xFFFFFFFF (ps.take k)=s0 at*;generalize ps[k]=p at*;obtain⟨pa,ai_,Yv⟩:=p;simp only[]at hc1 hb hbl hfin;have ahW:Hid (Hm 0xFFFFFFFF (ps.take (k+1))=Bf s0 Yv):=hfin;clear hfin
   go_wp2
   go_loop [3,16] (λrest i=>∃(j:Nat),j<=Yv.length∧i=.int .i64 j∧rest=.int .u32 ((Bf s0 (Yv.take j)).toNat:Int)) (λ_ i=>Yv.length- (intOf i).toNat)
   case atStart=>exact⟨0,by omega,rfl,rfl⟩
   case round=>
    obtain⟨j,hj,rfl,rfl⟩:=hrel;by_cases hlj:j<Yv.length
    ·obtain⟨pb,po,rfl,hcb⟩:=hb (by intro h;simp[h]at hlj)
     have aja:=hcb j hlj;have hfj:=Q3 s0 Yv j hlj;clear hcb hb;generalize Bf s0 (Yv.take j)=s1 at*;generalize Yv[j]=c at*;have Hfj:Hid (Bf s0 (Yv.take (j+1))=sI s1 c):=hfj;clear hfj
     go_wp2
     rw[c32 c,xG]
     go_loop [3,24] (λrest i=>∃(m:Nat) (s:UInt32),m<=8∧i=.int .i64 m∧rest=.int .u32 (s.toNat:Int)∧stn (8-m) s=sI s1 c) (λ_ i=>8- (intOf i).toNat)
     case atStart=>exact⟨0,_,by omega,rfl,rfl,rfl⟩
     case round=>
      obtain⟨m,s,hm,rfl,rfl,hs⟩:=hrel;by_cases hlm:m<8
      ·have HS:Hid (stn (8- (m+1)) (st1 s)=sI s1 c):=(UB m hlm s).symm.trans hs
       clear hs;by_cases hbit:s &&& 1=1
       ·have ht:=UA s hbit
        have Hx:Hid (bits .xor .u32 ((s.toNat:Int) /2) 3988292384=((st1 s).toNat:Int)):=Zi s hbit;clear hbit
        go_wp2
        go_round
        case rel=>exact⟨m+1,st1 s,by omega,by go_num,by rw[Hx.out],HS.out⟩
        case measure=>simp[intOf];omega
       ·have ht:=Q0 s hbit
        have Hx:Hid (((s.toNat:Int) /2)=((st1 s).toNat:Int)):=Uz s hbit;clear hbit
        go_wp2
        go_round
        case rel=>exact⟨m+1,st1 s,by omega,by go_num,by rw[Hx.out],HS.out⟩
        case measure=>simp[intOf];omega
      ·obtain rfl:m=8:=by omega
       have HS:Hid (s=sI s1 c):=hs;clear hs
       go_wp2
       go_round
       case rel=>exact⟨j+1,by omega,by go_num,by rw[HS.out,Hfj.out]⟩
       case measure=>simp[intOf];omega
    ·obtain rfl:j=Yv.length:=by omega
     go_wp2
     go_round
     case rel=>exact⟨k+1,by omega,by go_num,by rw[List.take_length,ahW.out]⟩
     case measure=>simp[intOf];omega
  ·obtain rfl:k=ps.length:=by omega
   go_wp2
   go_ret;exact⟨YJ (Zk ps),rfl⟩
end A
namespace A
theorem nM:uY prog 63 5 1 1 (.int .u8 0):=⟨by kernel_rfl,by kernel_rfl,by kernel_rfl,by decide⟩
theorem CB:uY prog 138 63 1 24 (.slice none 0 0):=⟨by kernel_rfl,by kernel_rfl,by kernel_rfl,by decide⟩
theorem mixed:prog.follows .mixedOrders=true:=by kernel_rfl
theorem M5(a:Option Addr)(c:Nat)(bs:List UInt8):crc (flat [⟨a,c,bs⟩])=crc bs:=by simp[flat]
theorem UZ(s:UInt32):(le4 s).map bv=[.int .u8 ((s.toNat:Int) %256),.int .u8 ((s.toNat:Int) /256%256),.int .u8 ((s.toNat:Int) /65536%256),.int .u8 ((s.toNat:Int) /16777216%256)]:=by
 have:=s.toNat_lt;simp only[le4,List.map_cons,List.map_nil,bv,UInt32.toNat_toUInt8,UInt32.toNat_shiftRight];rw[show(8:UInt32).toNat %32=8 from rfl,show(16:UInt32).toNat %32=16 from rfl,show(24:UInt32).toNat %32=24 from rfl];simp only[Nat.shiftRight_eq_div_pow];congr 2<;>(try congr 2)<;>(try congr 2)<;>(try congr 2)<;>omega
theorem Zq(w0:World)(a:Option Addr)(c:Nat)(bs:List UInt8)(hr:Rd w0 a (bs.map bv))(hl:bs.length<=100000):
  Calls prog 187 #[.slice a bs.length c] w0 λe w'=>∃g c',e=.returned (.slice (some ⟨g,0,none⟩) (bs.length+4) c')∧Inv [] w0 w' [bf 5 1 (.slice (some ⟨g,0,none⟩) (bs.length+4) c') (bs.length+4) ((xJ bs).map bv)]:=by
 have hI:=Inv.start w0;have hl2:bs.length<=maxLen:=by simp only[maxLen];omega
 have hf:=M5 a c bs;have hle:=HD (UZ (crc bs));go_enter func187,ntmps187;go_wp2_with(first|(with_reducible refine jY hI CB RF ?_;intro bx w hI)|go_at_call 177;refine KR (Ht _ _ [⟨a,c,bs⟩] 1 (vX (hI.rd aA) (hI.Jg hr) hl2) (by simp[maxLen])) ?_|(with_reducible refine Ho (c:=bs.length+4) hI nM RF RF OM MX ?_;intro bx w hI)|(with_reducible refine az (q:=bs.length) hI RF RF nM (by intro r';exact aR.here) (hI.Jg hr) SI (xH _) MX OM ?_;intro a1 c1 w hI;simp only[Nat.zero_add,List.nil_append]at hI;simp only[Nat.zero_add])|(with_reducible refine Bd hI nM RF RF RF RF ?_;intro bx w hI)|(with_reducible refine az (q:=4) hI RF RF nM (by intro r';exact aR.there aR.here) (hI.rd aA) RF (by simp[Value.oneCell']) MX OM ?_;intro a2 c2 w hI));obtain⟨g,rfl⟩:=gu (a':=a2) hI aM SI;have hle2:=hle.out;rw[<-hle2,<-List.map_append]at hI;go_ret;exact⟨g,c2,rfl,hI.sub (.cons _ (.cons_cons _ (.cons _ .slnil)))⟩
theorem ahX(t0 t1 t2 t3:UInt8):bits BinOp.or IntKind.u32 (bits BinOp.or IntKind.u32 (bits BinOp.or IntKind.u32 (t0.toNat:Int) ((t1.toNat:Int)*256)) ((t2.toNat:Int)*65536)) ((t3.toNat:Int)*16777216)=((Rb [t0,t1,t2,t3]:Nat):Int):=by
 have h0:=t0.toNat_lt;have h1:=t1.toNat_lt;have h2:=t2.toNat_lt;have h3:=t3.toNat_lt;have o1:t0.toNat ||| (t1.toNat*256)=t0.toNat+t1.toNat*256:=by
  have:=Nat.two_pow_add_eq_or_of_lt (i:=8) (b:=t0.toNat) OM t1.toNat;rw[Nat.or_comm,Nat.mul_comm t1.toNat,show(256:Nat)=2^8 from rfl,<-this];omega
 have o2:(t0.toNat+t1.toNat*256) ||| (t2.toNat*65536)=t0.toNat+t1.toNat*256+t2.toNat*65536:=by
  have:=Nat.two_pow_add_eq_or_of_lt (i:=16) (b:=t0.toNat+t1.toNat*256) OM t2.toNat;rw[Nat.or_comm,Nat.mul_comm t2.toNat,show(65536:Nat)=2^16 from rfl,<-this];omega
 have o3:(t0.toNat+t1.toNat*256+t2.toNat*65536) ||| (t3.toNat*16777216)=t0.toNat+t1.toNat*256+t2.toNat*65536+t3.toNat*16777216:=by
  have:=Nat.two_pow_add_eq_or_of_lt (i:=24) (b:=t0.toNat+t1.toNat*256+t2.toNat*65536) OM t3.toNat;rw[Nat.or_comm,Nat.mul_comm t3.toNat,show(16777216:Nat)=2^24 from rfl,<-this];omega
 have e1:=u32_or_nat t0.toNat (t1.toNat*256) OM OM;have e2:=u32_or_nat (t0.toNat+t1.toNat*256) (t2.toNat*65536) OM OM;have e3:=u32_or_nat (t0.toNat+t1.toNat*256+t2.toNat*65536) (t3.toNat*16777216) OM OM;rw[o1]at e1;rw[o2]at e2;rw[o3]at e3;rw[show((t1.toNat:Int)*256)=((t1.toNat*256:Nat):Int)from by omega,e1,show((t2.toNat:Int)*65536)=((t2.toNat*65536:Nat):Int)from by omega,e2,show((t3.toNat:Int)*16777216)=((t3.toNat*16777216:Nat):Int)from by omega,e3];simp only[Rb];omega
theorem M6(w0:World)(a:Option Addr)(c:Nat)(bs:List UInt8)(hl:bs.length<4):
  Calls prog 152 #[.slice a bs.length c] w0 λe w'=>e=.returned (.tuple #[.slice none 0 0,.bool false])∧w'=w0:=by
 go_enter func152,ntmps152
 go_wp2
 go_ret2
 exact⟨rfl,rfl⟩
theorem Rc(w0:World)(b off:Nat)(c:Nat)(bs:List UInt8)(t0 t1 t2 t3:UInt8)(hr:Rd w0 (some ⟨b,off,none⟩) ((bs++[t0,t1,t2,t3]).map bv))(hc:bs.length+4<=c)(hl:bs.length<=100000):
  Calls prog 152 #[.slice (some ⟨b,off,none⟩) (bs.length+4) c] w0 λe w'=>(∃a' c',(crc bs).toNat=Rb [t0,t1,t2,t3]∧e=.returned (.tuple #[.slice a' bs.length c',.bool true])∧Inv [] w0 w' [bf 5 1 (.slice a' bs.length c') bs.length (bs.map bv)])∨
   ((crc bs).toNat≠Rb [t0,t1,t2,t3]∧e=.returned (.tuple #[.slice none 0 0,.bool false])∧Below w0.heap.size w0 w'):=by
 have hI:=Inv.start w0;have hc1:((bs.length:Int)+4)<=(c:Int):=by omega
 have hc2:(bs.length:Int)<=(c:Int):=by omega
 go_enter func152,ntmps152
 go_wp2
 (replace hI:=hI.drew;refine wV [] mixed KF ?_;(generalize hwd:World.drew _=wd at hI|-;clear hwd))
 (repeat((with_reducible apply cZ);rfl;rfl;(focus(intro D w hD hE;go_wp2_with(fail);(try simp only[QN]);exact⟨rfl,rfl,hD⟩));(exact⟨_,rfl⟩)))
 ((with_reducible refine bn ?_);rintro _ rfl;(try simp only[QN]))
 go_wp2
 (replace hI:=hI.drew;refine wV [] mixed KF ?_;(generalize hwd:World.drew _=wd at hI|-;clear hwd))
 have hrw:=hI.Jg hr;have hcell:∀j (u:UInt8),(bs++[t0,t1,t2,t3])[j]? =some u->wd.cell? ⟨b,off+j,none⟩=some (.int .u8 (u.toNat:Int)):=by
  intro j u hj;obtain⟨b',off',hab,hc⟩:=hrw j (bv u) (by rw[List.getElem?_map,hj];rfl);cases hab;exact hc
 have k0:=hcell bs.length t0 SI;have k1:=hcell (bs.length+1) t1 SI;have k2:=hcell (bs.length+2) t2 SI;have k3:=hcell (bs.length+3) t3 SI;simp only[<-Nat.add_assoc]at k1 k2 k3;have l0:=t0.toNat_lt;have l1:=t1.toNat_lt;have l2:=t2.toNat_lt;have l3:=t3.toNat_lt;have hrt:Rd w0 (some ⟨b,off,none⟩) (bs.map bv):=by have:=hr.map_take (f:=bv) bs.length;simpa using this
 clear hcell hrw hr
 (repeat(first| ((with_reducible apply cZ);rfl;rfl;(focus(intro D w hD hE;go_wp2_with(fail);(try simp only[QN]);exact⟨rfl,rfl,hD⟩));(exact⟨_,rfl⟩)) | ((with_reducible refine Mk RF RF RF ?_);go_wp2_with(fail);refine⟨rfl,rfl,?_⟩;(try simp only[QN]))))
 ((with_reducible refine bn ?_);rintro _ rfl;(try simp only[QN]))
 rw[ahX];have hl2:bs.length<=maxLen:=by simp only[maxLen];omega
 have hf:=M5 (some ⟨b,off,none⟩) c bs;clear k0 k1 k2 k3;generalize hqe:Rb [t0,t1,t2,t3]=q;have HQ:=HD hqe;clear hqe;by_cases hq:(crc bs).toNat=q
 ·have hq2:(((crc bs).toNat:Int) != (q:Int))=false:=by simp[hq]
  have HQ2:=HD hq;clear hq;go_wp2_with(first|(with_reducible refine jY hI CB RF ?_;intro bx w hI)|go_at_call 177;refine KR (Ht _ _ [⟨some ⟨b,off,none⟩,c,bs⟩] 1 (vX (hI.rd aA) (hI.Jg hrt) hl2) (by simp[maxLen])) ?_|(with_reducible refine nk hI nM ?_;intro bx w hI)|(with_reducible refine az (q:=bs.length) hI RF RF nM (by intro r';exact aR.here) (hI.Jg hrt) SI (xH _) MX OM ?_;intro a1 c1 w hI;simp only[Nat.zero_add,List.nil_append]at hI;simp only[Nat.zero_add]))
  go_ret2
  exact .inl ⟨a1,c1,HQ2.out.trans HQ.out.symm,rfl,hI.sub (.cons_cons _ (.cons _ .slnil))⟩
 ·have hq2:(((crc bs).toNat:Int) != (q:Int))=true:=by simp;omega
  have HQ2:=HD hq;clear hq;go_wp2_with(first|(with_reducible refine jY hI CB RF ?_;intro bx w hI)|go_at_call 177;refine KR (Ht _ _ [⟨some ⟨b,off,none⟩,c,bs⟩] 1 (vX (hI.rd aA) (hI.Jg hrt) hl2) (by simp[maxLen])) ?_)
  go_ret2
  exact .inr ⟨λh=>HQ2.out (h.trans HQ.out),rfl,hI.below⟩
def af5(w0:World)(p:List UInt8)(e:Ending)(w':World):Prop:=
 (∃t a' c',kI p=some t∧e=.returned (.tuple #[.slice a' t.length c',.bool true])∧Inv [] w0 w' [bf 5 1 (.slice a' t.length c') t.length (t.map bv)])∨
 (kI p=none∧e=.returned (.tuple #[.slice none 0 0,.bool false])∧Below w0.heap.size w0 w')
theorem Jw(w0:World)(a:Option Addr)(c:Nat)(p:List UInt8)(hr:Rd w0 a (p.map bv))(hc:p.length<=c)(hl:p.length<=100000):
  Calls prog 152 #[.slice a p.length c] w0 (af5 w0 p):=by
 by_cases h4:p.length<4
 ·refine(M6 w0 a c p h4).mono ?_
  rintro e w' ⟨rfl,rfl⟩;exact .inr ⟨by unfold kI;rw[if_neg OM],rfl,Below.refl _ _⟩
 ·obtain⟨bs,t0,t1,t2,t3,rfl⟩:∃bs t0 t1 t2 t3,p=bs++[t0,t1,t2,t3]:=by
   refine⟨p.take (p.length-4),p[p.length-4],p[p.length-3],p[p.length-2],p[p.length-1],?_⟩;apply List.ext_getElem?;intro i;by_cases hi:i<p.length-4
   ·rw[List.getElem?_append_left (by simp;omega),List.getElem?_take,if_pos hi]
   ·rw[List.getElem?_append_right (by simp;omega)]
    have e:(List.take (p.length-4) p).length=p.length-4:=by simp
    rw[e];have:i=p.length-4∨i=p.length-3∨i=p.length-2∨i=p.length-1∨p.length<=i:=by omega
    rcases this with rfl|rfl|rfl|rfl|h
    ·simp
    ·rw[show p.length-3- (p.length-4)=1 from by omega];simp
    ·rw[show p.length-2- (p.length-4)=2 from by omega];simp
    ·rw[show p.length-1- (p.length-4)=3 from by omega];simp
    ·rw[List.getElem?_eq_none OM,List.getElem?_eq_none (by simp;omega)]
  obtain⟨b,off,rfl,_⟩:∃b off,a=some ⟨b,off,none⟩∧True:=by
   obtain⟨b,off,h,_⟩:=hr bs.length (bv t0) SI;exact⟨b,off,h,trivial⟩
  simp only[List.length_append,List.length_cons,List.length_nil,Nat.zero_add]at hc hl h4|-;have ht:kI (bs++[t0,t1,t2,t3])=if(crc bs).toNat=Rb [t0,t1,t2,t3]then some bs else none:=by
   unfold kI;have e:(bs++[t0,t1,t2,t3]).length -4=bs.length:=by simp
   rw[e,List.take_left,List.drop_left];simp
  refine(Rc w0 b off c bs t0 t1 t2 t3 hr hc OM).mono ?_;rintro e w' (⟨a',c',h,rfl,hI⟩ | ⟨h,rfl,hb⟩)
  ·exact .inl ⟨bs,a',c',by rw[ht,if_pos h],rfl,hI⟩
  ·exact .inr ⟨by rw[ht,if_neg h],rfl,hb⟩
end A
namespace A
end A
section
variable {P:Program}{ops:Array Oper}{Q:Exit->Act->World->Prop}{a:Act}{rest:List Oper}{T:List Nat}{w0 w:World}{m m1:List aG}{dst:Option Tmp}{ty:TypeId}{pos:String}{af:Array Edge}
theorem vz{t e size bytes c:Nat}{kl kc:IntKind}{z:Value}{x y:Operand}{H:Nat}(hI:Inv T w0 w m)(hH:w.heap.size=H)(hT:uY P t e size bytes z)(hx:a.eval x=.int kl 0)(hy:a.eval y=.int kc (c:Int))(hb:bytes*c<=281474976710656)(h63:c<=maxLen)
  (k:∀w',Inv T w0 w' (bf e size (.slice (some ⟨H,0,none⟩) 0 c) 0 []::m)->w'.heap.size=H+1->wpList P ops Q rest (a.put dst (.slice (some ⟨H,0,none⟩) 0 c)) w'):
  wpList P ops Q (⟨dst,.makeSlice t x y,ty,pos,af,none⟩::rest) a w:=
 wpList_plain rfl λK hK=>by
  subst hH;obtain⟨i,hi,hz,rfl,rfl⟩:=hT.info;have h63':(c:Int)<=9223372036854775807:=by
   have h:=h63;simp[maxLen]at h;omega
  have hb':(i.bytes:Int)*(c:Int)<=281474976710656:=by
   have h:((i.bytes*c:Nat):Int)<=281474976710656:=by omega
   rwa [Int.natCast_mul]at h
  have hr:=run_make (P:=P) w t e i z hT.und hi hz kl kc 0 c OM OM hb' h63';simp only[Int.toNat_natCast,Int.toNat_zero]at hr;unfold Oper.wp execOp;simp only[hx,hy,Sem.run_bind,hr,Result.andThen_ok,Sem.run_pure];refine hK _ _ (k _ (hI.new (xc (World.grownBy_alloc w _ none)) (World.ownsRow_made w _ c (Nat.zero_le _) h63 (size_madeCells _ _)) ?_ ?_) SI)
  ·intro j hj
   have hj:j=w.heap.size:=by simpa[bf,Value.ownBlock]using hj
   subst hj;simp
  ·simp[bf,Value.ownBlock]
theorem oZ{t e size bytes len:Nat}{z:Value}{parts:Array (Nat×Operand)}{cs:List Value}{H:Nat}(hI:Inv T w0 w m)(hH:w.heap.size=H)(hT:uY P t e size bytes z)(hb:len*size<=16777216)(hb2:0<len)
  (hf:Instr.fill (λi=>some (i*size,size)) ((Array.range (len*size)).map (z.cells[· %z.cells.size]!)) (parts.map λ(i,x)=>(i,a.eval x)).toList=some cs.toArray) (hl:cs.length=len*size)
  (k:∀w',Inv T w0 w' (bf e size (.slice (some ⟨H,0,none⟩) len len) len cs::m)->w'.heap.size=H+1->wpList P ops Q rest (a.put dst (.slice (some ⟨H,0,none⟩) len len)) w'):
  wpList P ops Q (⟨dst,.buildSlice t len parts,ty,pos,af,none⟩::rest) a w:=
 wpList_plain rfl λK hK=>by
  subst hH;obtain⟨i,hi,hz,rfl,rfl⟩:=hT.info;have hpos:=hT.pos;have hne:¬(len*i.size=0):=by
   intro h;rcases Nat.mul_eq_zero.1 h with h|h<;>omega
  have hb':¬(len*i.size>2^24):=by omega
  unfold Oper.wp execOp;have hrun:(Instr.buildSlice t len (parts.map λ(i,x)=>(i,a.eval x))).run P w=.ok (.slice (some ⟨w.heap.size,0,none⟩) len len) (w.alloc (.cells cs.toArray e)):=by
   have hzv:(zeroValue e).run P w=.ok z w:=by simp[zeroValue,typeInfo,hi,hz]
   simp only[Instr.buildSlice,Sem.run_bind,run_underlying hT.und,Result.andThen_ok,dH (show(P.info? e).map (·.size)=some i.size by rw[hi];rfl),if_neg hb',if_neg hne,Sem.run_pure,hzv,hf];rfl
  simp only[Sem.run_bind,hrun,Result.andThen_ok,Sem.run_pure];refine hK _ _ (k _ ?_ SI);refine hI.new ⟨rfl,rfl,rfl,by simp,λk hk _=>_root_.Go.heap_alloc_old w _ hk⟩ ?_ (by simp[bf,Value.ownBlock]) (by simp[bf,Value.ownBlock]);refine⟨hl,.inr ⟨w.heap.size,len,_,rfl,Nat.zero_le _,heap_alloc_new w _,Nat.le_refl _,?_,?_,?_⟩⟩
  ·simp only[maxLen]
   have:len*1<=len*i.size:=Nat.mul_le_mul_left _ hpos;omega
  ·simp[hl]
  ·simp[<-hl]
theorem yK{t e bytes:Nat}{z:Value}{x0:Operand}{ao:Option Addr}{n c:Nat}{H:Nat}(hI:Inv T w0 w m)(hH:w.heap.size=H)(hT:uY P t e 1 bytes z)(h0:a.eval x0=.slice ao n c)
  (k:∀w',Inv T w0 w' (bf e 1 (.slice (some ⟨H,0,none⟩) 1 1) 1 [.slice ao n c]::m)->w'.heap.size=H+1->wpList P ops Q rest (a.put dst (.slice (some ⟨H,0,none⟩) 1 1)) w'):
  wpList P ops Q (⟨dst,.buildSlice t 1 #[(0,x0)],ty,pos,af,none⟩::rest) a w:=
 oZ hI hH hT DC DC (by simp[Instr.fill,h0,Value.cells,show Array.range 1=#[0]from by decide]) (by rfl) k
theorem yL{t e bytes:Nat}{z:Value}{kd:IntKind}{x0 x1:Operand}{v0 v1:Int}{H:Nat}(hI:Inv T w0 w m)(hH:w.heap.size=H)(hT:uY P t e 1 bytes z)(h0:a.eval x0=.int kd v0)(h1:a.eval x1=.int kd v1)
  (k:∀w',Inv T w0 w' (bf e 1 (.slice (some ⟨H,0,none⟩) 2 2) 2 [.int kd v0,.int kd v1]::m)->w'.heap.size=H+1->wpList P ops Q rest (a.put dst (.slice (some ⟨H,0,none⟩) 2 2)) w'):
  wpList P ops Q (⟨dst,.buildSlice t 2 #[(0,x0),(1,x1)],ty,pos,af,none⟩::rest) a w:=
 oZ hI hH hT DC DC (by simp[Instr.fill,h0,h1,Value.cells,show Array.range 2=#[0,1]from by decide]) (by rfl) k
theorem yM{t e bytes:Nat}{z:Value}{kd:IntKind}{x0 x1 x2 x3:Operand}{v0 v1 v2 v3:Int}{H:Nat}(hI:Inv T w0 w m)(hH:w.heap.size=H)(hT:uY P t e 1 bytes z)(h0:a.eval x0=.int kd v0)(h1:a.eval x1=.int kd v1)(h2:a.eval x2=.int kd v2)(h3:a.eval x3=.int kd v3)
  (k:∀w',Inv T w0 w' (bf e 1 (.slice (some ⟨H,0,none⟩) 4 4) 4 [.int kd v0,.int kd v1,.int kd v2,.int kd v3]::m)->w'.heap.size=H+1->wpList P ops Q rest (a.put dst (.slice (some ⟨H,0,none⟩) 4 4)) w'):
  wpList P ops Q (⟨dst,.buildSlice t 4 #[(0,x0),(1,x1),(2,x2),(3,x3)],ty,pos,af,none⟩::rest) a w:=
 oZ hI hH hT DC DC (by simp[Instr.fill,h0,h1,h2,h3,Value.cells,show Array.range 4=#[0,1,2,3]from by decide]) (by rfl) k
theorem l9{m':aG->List aG}{s x:Operand}{t e size bytes n q c0 c:Nat}{z:Value}{g:Nat}{ao:Option Addr}{xs news:List Value}{H:Nat}(hI:Inv T w0 w m)(hH:w.heap.size=H)(hs:a.eval s=.slice (some ⟨g,0,none⟩) n c0)(hx:a.eval x=.slice ao q c)
  (hT:uY P t e size bytes z) (hu:∀r',aR (bf e size (.slice (some ⟨g,0,none⟩) n c0) n xs) r' m (m' r')) (hr:Rd w ao news) (hl:news.length=q*size) (h1:∀u∈news,u.oneCell'=true) (hroom:n+q<=c0)
  (k:∀w',Inv T w0 w' (m' (bf e size (.slice (some ⟨g,0,none⟩) (n+q) c0) (n+q) (xs++news)))->w'.heap.size=H->wpList P ops Q rest (a.put dst (.slice (some ⟨g,0,none⟩) (n+q) c0)) w'):
  wpList P ops Q (⟨dst,.call {callee:=.builtin .append,args:= #[s,x],argTypes:= #[t,t]},ty,pos,af,none⟩::rest) a w:=
 wpList_plain rfl λK hK=>by
  subst hH;have hown:w.ownsRow 0 e size (.slice (some ⟨g,0,none⟩) n c0) n xs:=by
   obtain⟨m1,m2,rfl,_⟩:=(hu (bf e size (.slice (some ⟨g,0,none⟩) n c0) n xs)).split;exact hI.sat (bf e size (.slice (some ⟨g,0,none⟩) n c0) n xs) SI
  obtain⟨i,hi,hz,rfl,rfl⟩:=hT.info;have fin:∀w',(Builtin.append_ #[t,t] ty #[.slice (some ⟨g,0,none⟩) n c0,.slice ao q c]).run P w=.ok (.slice (some ⟨g,0,none⟩) (n+q) c0) w'->w'.ownsRow 0 e i.size (.slice (some ⟨g,0,none⟩) (n+q) c0) (n+q) (xs++news)->Step [g] w w'->w'.heap.size=w.heap.size->
    Oper.wp P ⟨dst,.call {callee:=.builtin .append,args:= #[s,x],argTypes:= #[t,t]},ty,pos,af,none⟩ a w K Q:=by
   intro w' hrun ho hst hsz;unfold Oper.wp execOp;simp only[resolve,invoke,builtin,Sem.run_bind,Sem.run_pure,Result.andThen_ok,List.map_toArray,List.map_cons,List.map_nil,hs,hx,hrun];refine hK _ _ (k w' (hI.upd (hu _) (hst.mono (by simp[bf,Value.ownBlock])) ho (λj hj=> .inl (by simpa[bf,Value.ownBlock]using hj)) (by simp[bf,Value.ownBlock])) hsz)
  by_cases hq:q=0
  ·subst hq
   have hn:news=[]:=List.eq_nil_of_length_eq_zero (by simpa using hl);subst hn;refine fin w ?_ (by simpa using hown) (.refl _ _) rfl;cases ao with
   |none=>exact run_append_nothing w t t ty e i hT.und hi (some ⟨g,0,none⟩) n c0 hroom _ (Src.ofNil w hT.und c)
   |some ad=>exact run_append_nothing w t t ty e i hT.und hi (some ⟨g,0,none⟩) n c0 hroom _ (Src.ofSlice w hT.und ad 0 c [] SI (λ_ _ h=>by simp at h) (λ_ h=>by simp at h))
  ·obtain⟨af7,⟨hv,_⟩ | ⟨g',cap,cur,hv,hbg,hg,hnc,hcm,hcs,htake⟩⟩:=hown
   ·cases hv
   cases hv;have hpos:=hT.pos;cases ao with
   |none=>
    have hn:news=[]:=by
     cases news with
     |nil=>rfl
     |cons u l=>obtain⟨_,_,h,_⟩:=hr 0 u rfl;cases h
    subst hn;have h0:q*i.size=0:=by simpa using hl.symm
    rcases Nat.mul_eq_zero.1 h0 with h|h<;>omega
   |some ad=>
    have hnews:∀j u,news[j]? =some u->w.cell? (ad.add j)=some u:=by
     intro j u hj;obtain⟨b,off,hab,hc⟩:=hr j u hj;obtain rfl:=Option.some.inj hab;rw[jE];exact hc
    have hfit:n*i.size+news.length<=cur.size:=by rw[hl,hcs,<-Nat.add_mul];exact Nat.mul_le_mul_right _ hroom
    have hrr:=run_append_room (P:=P) w t ty e i hT.und hi g n c0 cur hg ad q c news hl hnews h1 hroom hfit;have hlen:(xs++news).length=(n+q)*i.size:=by rw[List.length_append,af7,hl,Nat.add_mul]
    refine fin _ hrr ⟨hlen,.inr ⟨g,c0,_,rfl,hbg,setRow_heap w g cur _ e _ hg,hroom,hcm,?_,?_⟩⟩ ⟨rfl,rfl,rfl,by simp,λk _ hk=>setRow_other w g k _ (λe=>hk (by simp[e]))⟩ SI
    ·simp only[List.size_toArray,List.length_append,List.length_take,List.length_drop,Array.length_toList]
     omega
    ·rw[htake,<-hlen]
     exact List.take_left
end
def EJ(e:TypeId)(v:Value)(xs:List Value):aG:=
 ⟨v.ownBlock.toList,λw=>(v=.slice none 0 0∧xs=[])∨∃g off cap cur,v=.slice (some ⟨g,off,none⟩) xs.length cap∧w.heap[g]? =some (.cells (cur:List Value).toArray e (0,0))∧xs.length<=cap∧cap<=maxLen∧off+cap<=cur.length∧(cur.drop off).take xs.length=xs,
  λw w' h hs=>by
   rcases hs with h0| ⟨g,off,cap,cur,rfl,hg,rest⟩
   ·exact .inl h0
   ·exact .inr ⟨g,off,cap,cur,rfl,(h g (by simp[Value.ownBlock])).trans hg,rest⟩⟩
section
variable {w:World}{e:TypeId}{xs:List Value}
theorem CW{a:Option Addr}{n c:Nat}(h:(EJ e (.slice a n c) xs).sat w):Rd w a xs:=by
 intro j u hj;rcases h with⟨_,rfl⟩ | ⟨g,off,cap,cur,hv,hg,h1,h2,h3,h4⟩
 ·simp at hj
 ·simp only[Value.slice.injEq]at hv
  obtain⟨rfl,rfl,rfl⟩:=hv;refine⟨g,off,rfl,?_⟩;rw[<-h4,List.getElem?_take]at hj
  split at hj
  ·rw[List.getElem?_drop]at hj
   simp[World.cell?,hg,hj]
  ·cases hj
theorem Zu{a:Option Addr}{n c:Nat}(h:(EJ e (.slice a n c) xs).sat w):n=xs.length∧n<=c∧(a=none->n=0∧c=0):=by
 rcases h with⟨hv,rfl⟩ | ⟨g,off,cap,cur,hv,hg,h1,h2,h3,h4⟩
 ·cases hv;simp
 ·simp only[Value.slice.injEq]at hv
  obtain⟨rfl,rfl,rfl⟩:=hv;exact⟨rfl,h1,by simp⟩
theorem CZ{P:Program}{t bytes:Nat}{z:Value}(hT:uY P t e 1 bytes z)(ty:TypeId){a0:Option Addr}{n c0:Nat}(hown:(EJ e (.slice a0 n c0) xs).sat w)
  {ao:Option Addr} {q c:Nat} {news:List Value} (hr:Rd w ao news) (hl:news.length=q) (h1:∀u∈news,u.oneCell'=true) (h63:n+q<=maxLen) (hbytes:(n+q)*bytes<=140737488355328):
  ∃a' c' w',(Builtin.append_ #[t,t] ty #[.slice a0 n c0,.slice ao q c]).run P w=.ok (.slice a' (n+q) c') w'∧(EJ e (.slice a' (n+q) c') (xs++news)).sat w'∧
   Step (Value.ownBlock (.slice a0 n c0)).toList w w'∧(∀k,(Value.ownBlock (.slice a' (n+q) c'))=some k->(Value.ownBlock (.slice a0 n c0))=some k∨(w.heap.size<=k∧k<w'.heap.size)):=by
 obtain⟨i,hi,hz,Zv,rfl⟩:=hT.info;have ht:=hT.und;have hzs:=hT.zc;obtain⟨hnl,hnc,hnone⟩:=Zu hown;have hsrc:∀w2:World,(∀j u,news[j]? =some u->∃b off,ao=some ⟨b,off,none⟩∧w2.cell? ⟨b,off+j,none⟩=some u)->Src P i.size t (.slice ao q c) q news w2:=by
  intro w2 hr2;cases ao with
  |none=>
   have hn:news=[]:=by
    cases news with
    |nil=>rfl
    |cons u l=>obtain⟨_,_,h,_⟩:=hr2 0 u rfl;cases h
   subst hn;have hq:q=0:=by simpa using hl.symm
   subst hq;exact Src.ofNil w2 ht c
  |some ad=>exact Src.ofSlice w2 ht ad q c news (by rw[Zv];omega) (λj u hj=>by
    obtain⟨b,off,hab,hc⟩:=hr2 j u hj;obtain rfl:=Option.some.inj hab;rw[jE];exact hc) h1
 have hs:=hsrc w hr;by_cases hroom:n+q<=c0
 ·rcases hown with⟨hv,hx⟩ | ⟨g,off,cap,cur,hv,hg,b1,b2,b3,b4⟩
  ·cases hv
   have hq:q=0:=by omega
   subst hq;have hn:news=[]:=List.eq_nil_of_length_eq_zero hl;subst hn hx;have hrn:=run_append_nothing (P:=P) w t t ty e i ht hi none 0 0 (Nat.le_refl _) (.slice ao 0 c) hs;exact⟨none,0,w,hrn,.inl ⟨rfl,rfl⟩,.refl _ _,λk hk=>by simp[Value.ownBlock]at hk⟩
  ·simp only[Value.slice.injEq]at hv
   obtain⟨rfl,rfl,rfl⟩:=hv;have hcells:∀j,w.cell? ⟨g,j,none⟩=cur[j]? :=λj=>mV hg j
   have hrr:=run_append_room_src (P:=P) w t t ty e i ht hi g off xs.length c0 (.slice ao q c) q news hs hroom
    (λj hj=>by rw[hcells,Zv,Nat.mul_one];rw[List.getElem?_eq_getElem OM];rfl)
    (λj hj=>by simp[World.frozen?,hg])
   rw[Zv,Nat.mul_one]at hrr;obtain⟨w',hst,hstep,hsize,hheap⟩:=qc (P:=P) (b:=g) (e:=e) news h1 w cur (off+xs.length) 0 hg OM;have Rf:=run_storeCells_cells (P:=P) g (off+xs.length) news 0 w (by intro j hj;rw[Nat.add_zero,hcells,List.getElem?_eq_getElem OM];rfl) (by intro j hj;simp[World.frozen?,hg]) h1;rw[Nat.add_zero]at Rf hheap;have hw:w.setCells g (off+xs.length) news=w':=by
    have:=Rf.symm.trans hst;cases this;rfl
   rw[hw]at hrr;refine⟨some ⟨g,off,none⟩,c0,w',hrr,.inr ⟨g,off,c0,splice cur (off+xs.length) news,by rw[List.length_append,hl],hheap,by rw[List.length_append];omega,b2,by simp[splice];omega,?_⟩,hstep,λk hk=> .inl hk⟩;have hco:cur.take (off+xs.length)=cur.take off++xs:=by rw[List.take_add,b4]
   have hlo:(cur.take off).length=off:=by simp;omega
   unfold splice;rw[hco,List.append_assoc,List.append_assoc,List.drop_left' hlo,<-List.append_assoc];exact List.take_left
 ·have hgrow:c0<n+q:=by omega
  have hold:(Builtin.firstCells i.size n (.slice a0 n c0)).run P w.drew=.ok xs.toArray w.drew:=by
   cases a0 with
   |none=>
    obtain⟨h0,_⟩:=hnone rfl;have hx:xs=[]:=List.eq_nil_of_length_eq_zero OM;subst hx;exact run_firstCells_none w.drew _ _ _ _
   |some ad=>
    refine run_firstCells_some w.drew _ n ad n c0 xs (by rw[Zv];omega) (λj u hj=>?_);obtain⟨b,off,hab,hc⟩:=CW hown j u hj;obtain rfl:=Option.some.inj hab;rw[jE];exact hc
  have hrr:=run_append_grow_src (P:=P) w t t ty e i z ht hi hz a0 n c0 xs hold (.slice ao q c) q news hs hgrow (by simp only[maxLen]at h63;omega) (growslice_fits hgrow hbytes);have hge:=grownCap_ge w (n+q) c0 e;refine⟨some ⟨w.heap.size,0,none⟩,_,_,hrr,.inr ⟨w.heap.size,0,grownCap w (n+q) c0 e,(xs++news)++(Builtin.zeroCells z.cells (grownCap w (n+q) c0 e- (n+q))).toList,by rw[List.length_append,hl,hnl],?_,?_,grownCap_le_maxLen w (n+q) c0 e h63,?_,?_⟩,⟨rfl,rfl,rfl,by simp,λk hk _=>_root_.Go.heap_alloc_old w.drew _ hk⟩,λk hk=> .inr (by
   have hk:w.heap.size=k:=by simpa[Value.ownBlock]using hk
   subst hk;simp)⟩
  ·have:=heap_alloc_new w.drew (.cells ((xs++news).toArray++Builtin.zeroCells z.cells (grownCap w (n+q) c0 e- (n+q))) e)
   rw[show((xs++news)++(Builtin.zeroCells z.cells (grownCap w (n+q) c0 e- (n+q))).toList).toArray=(xs++news).toArray++Builtin.zeroCells z.cells (grownCap w (n+q) c0 e- (n+q))from by apply Array.ext';simp];exact this
  ·rw[List.length_append,hl];omega
  ·simp only[List.length_append,Array.length_toList,size_zeroCells,hzs,hl];omega
  ·rw[List.drop_zero];exact List.take_left
end
section
variable {P:Program}{ops:Array Oper}{Q:Exit->Act->World->Prop}{a:Act}{rest:List Oper}{T:List Nat}{w0 w:World}{m:List aG}{dst:Option Tmp}{ty:TypeId}{pos:String}{af:Array Edge}
theorem q_{m':aG->List aG}{s x:Operand}{t e bytes n q c0 c:Nat}{z:Value}{a0 ao:Option Addr}{xs news:List Value}(hI:Inv T w0 w m)(hs:a.eval s=.slice a0 n c0)(hx:a.eval x=.slice ao q c)
  (hT:uY P t e 1 bytes z) (hu:∀r',aR (EJ e (.slice a0 n c0) xs) r' m (m' r')) (hr:Rd w ao news) (hl:news.length=q) (h1:∀u∈news,u.oneCell'=true) (h63:n+q<=maxLen) (hbytes:(n+q)*bytes<=140737488355328)
  (k:∀a' c' w',Inv T w0 w' (m' (EJ e (.slice a' (n+q) c') (xs++news)))->wpList P ops Q rest (a.put dst (.slice a' (n+q) c')) w'):
  wpList P ops Q (⟨dst,.call {callee:=.builtin .append,args:= #[s,x],argTypes:= #[t,t]},ty,pos,af,none⟩::rest) a w:=
 wpList_plain rfl λK hK=>by
  have hown:(EJ e (.slice a0 n c0) xs).sat w:=by
   obtain⟨m1,m2,rfl,_⟩:=(hu (EJ e (.slice a0 n c0) xs)).split;exact hI.sat (EJ e (.slice a0 n c0) xs) SI
  obtain⟨a',c',w',hrun,ho,hst,hk⟩:=CZ (P:=P) hT ty hown hr hl h1 h63 hbytes (c:=c);unfold Oper.wp execOp;simp only[resolve,invoke,builtin,Sem.run_bind,Sem.run_pure,Result.andThen_ok,List.map_toArray,List.map_cons,List.map_nil,hs,hx,hrun];refine hK _ _ (k a' c' w' (hI.upd (hu _) hst ho (λj hj=>?_) ?_))
  ·have hj:Value.ownBlock (.slice a' (n+q) c')=some j:=by simpa[EJ]using hj
   rcases hk j hj with h|h
   ·exact .inl (by simp[EJ,h])
   ·exact .inr h
  ·cases a'<;>simp[EJ,Value.ownBlock]
end
theorem agb:ownKnob prog.godebug=none:=by kernel_rfl
theorem Un:laidOutB prog=true:=by kernel_rfl
theorem rJ.done{w:World}:∀ {cs:List Value},rJ w [] cs->cs=[]
 | [],_=>rfl
section
variable {P:Program}
def L9(P:Program)(t n:Nat):Prop:=CR P t (List.replicate n Mf)
theorem L9.int{t:TypeId}(ht:P.underlying t=some (.int .i64))(hc:P.cellsOf t=1):L9 P t 1:=CR.int ht hc
theorem JH{α:Type _}(p:α)(n:Nat):∀k,(List.replicate k (List.replicate n p)).flatten=List.replicate (k*n) p
 |0=>by simp
 |k+1=>by rw[List.replicate_succ,List.flatten_cons,JH p n k,List.replicate_append_replicate,Nat.succ_mul,Nat.add_comm]
theorem L9.array{t e k n:Nat}(ht:P.underlying t=some (.array k e))(he:L9 P e n)(hc:P.cellsOf t=k*n):L9 P t (k*n):=by
 have:=CR.array ht he (by simpa using hc);unfold L9
 rwa [JH]at this
def rT(P:Program):List (TypeId×Nat)->Nat->Nat->Prop
 | [],_,n=>n=0
 |x::l,o,n=>x.2=o∧∃q r,L9 P x.1 q∧rT P l (o+q) r∧n=q+r
theorem rT.nil{o:Nat}:rT P [] o 0:=rfl
theorem rT.cons{t o q r:Nat}{l:List (TypeId×Nat)}(h:L9 P t q)(hr:rT P l (o+q) r):rT P ((t,o)::l) o (q+r):=⟨rfl,q,r,h,hr,rfl⟩
theorem rT.fields:∀ {l:List (TypeId×Nat)} {o n:Nat},rT P l o n->om P l o (List.replicate n Mf)
 | [],_,_,h=>by
  have h:_=0:=h;subst h;rfl
 | (t,o')::l,o,n,h=>by
  obtain⟨rfl,q,r,h1,h2,rfl⟩:=h;have h3:=rT.fields h2;rw[<-List.replicate_append_replicate];exact om.cons h1 (by simpa using h3)
theorem L9.struct{t n:Nat}{l:List (TypeId×Nat)}(ht:P.underlying t=some (.struct (P.fieldsOf t)))(hl:(P.fieldsOf t).toList.map fieldAt=l)(hc:P.cellsOf t=n)(h:rT P l 0 n):L9 P t n:=
 CR.struct ht hl (by simpa using hc) h.fields
theorem afD{zs:List Int}(h:∀z∈zs,(Lit.int .i64 z).wf=true)(i:Nat):-9223372036854775808<=gi zs i∧gi zs i<=9223372036854775807:=by
 unfold gi;rw[List.getD_eq_getElem?_getD];cases hz:zs[i]? with
 |none=>simp
 |some z=>
  have:=h z (List.mem_of_getElem? hz);simpa[Lit.wf,IntKind.min,IntKind.max,IntKind.bits,IntKind.signed]using this
end
namespace C
end C
def mix(zs:List Int)(bs:List Bool):List Value:=zs.map (Value.int .i64)++bs.map Value.bool
def xf(b:Nat)(e:TypeId)(zs:List Int)(bs:List Bool):aG:=blk b e (mix zs bs)
def gb(bs:List Bool)(i:Nat):Bool:=bs.getD i false
theorem yR(zs:List Int)(bs:List Bool):(mix zs bs).length=zs.length+bs.length:=by simp[mix]
theorem ZI(zs:List Int)(bs:List Bool)(off n:Nat)(h:off+n<=zs.length):((mix zs bs).drop off).take n=(sub zs off n).map (Value.int .i64):=by
 unfold mix sub;rw[List.drop_append_of_le_length (by simp;omega),List.take_append_of_le_length (by simp;omega),<-List.map_drop,<-List.map_take]
theorem ZJ(zs:List Int)(bs:List Bool)(i:Nat)(h:i<zs.length):(mix zs bs)[i]? =some (.int .i64 (gi zs i)):=by
 unfold mix;rw[List.getElem?_append_left (by simpa using h)];simp[h,gi]
theorem U_(zs:List Int)(bs:List Bool)(i:Nat)(h:i<bs.length):(mix zs bs)[zs.length+i]? =some (.bool (gb bs i)):=by
 unfold mix;rw[List.getElem?_append_right SI];simp[h,gb]
theorem ZK(zs vs:List Int)(bs:List Bool)(off:Nat)(h:off+vs.length<=zs.length):splice (mix zs bs) off (vs.map (Value.int .i64))=mix (dF zs off vs) bs:=by
 unfold splice mix dF;exact W84
theorem ZM(zs:List Int)(bs:List Bool)(i:Nat)(v:Bool):(mix zs bs).set (zs.length+i) (.bool v)=mix zs (bs.set i v):=by
 unfold mix;rw[List.set_append_right _ _ SI];simp
section
variable {P:Program}{ops:Array Oper}{Q:Exit->Act->World->Prop}{a:Act}{rest:List Oper}{T:List Nat}{w0 w:World}{m m':List aG}{dst:Option Tmp}{ty:TypeId}{pos:String}{af:Array Edge}
theorem bA{x:Operand}{t n b off:Nat}{e:TypeId}{zs:List Int}{bs:List Bool}(hI:Inv T w0 w m)(hx:a.eval x=.pointer (some ⟨b,off,none⟩))(hm:xf b e zs bs∈m)(hT:fw P t n)(hl:off+n<=zs.length)
  (k:wpList P ops Q rest (a.put dst (ia (sub zs off n))) w):wpList P ops Q (⟨dst,.load t x,ty,pos,af,none⟩::rest) a w:=by
 refine bL hI hx hm hT (by rw[yR];omega) ?_;rw[ZI _ _ _ _ hl];exact k
theorem fV{x:Operand}{t b off:Nat}{e:TypeId}{zs:List Int}{bs:List Bool}(hI:Inv T w0 w m)(hx:a.eval x=.pointer (some ⟨b,off,none⟩))(hm:xf b e zs bs∈m)(hT:jg P t)(hl:off<zs.length)
  (k:wpList P ops Q rest (a.put dst (.int .i64 (gi zs off))) w):wpList P ops Q (⟨dst,.load t x,ty,pos,af,none⟩::rest) a w:=
 aS hI hx hm hT (ZJ zs bs off hl) k
theorem vB{x:Operand}{t b off j:Nat}{e:TypeId}{zs:List Int}{bs:List Bool}(hI:Inv T w0 w m)(hx:a.eval x=.pointer (some ⟨b,off,none⟩))(hm:xf b e zs bs∈m)(hT:jg P t)(hl:off=zs.length+j)(hj:j<bs.length)
  (k:wpList P ops Q rest (a.put dst (.bool (gb bs j))) w):wpList P ops Q (⟨dst,.load t x,ty,pos,af,none⟩::rest) a w:=
 aS hI hx hm hT (by rw[hl];exact U_ zs bs j hj) k
theorem zS{x y:Operand}{t n b off:Nat}{e:TypeId}{zs vs:List Int}{bs:List Bool}(hI:Inv T w0 w m)(hx:a.eval x=.pointer (some ⟨b,off,none⟩))(hv:a.eval y=ia vs)(hu:aR (xf b e zs bs) (xf b e (dF zs off vs) bs) m m')
  (hT:fw P t n) (hl:vs.length=n) (hoff:off+n<=zs.length)
  (k:∀w',Inv T w0 w' m'->wpList P ops Q rest (a.put dst undef) w'):wpList P ops Q (⟨dst,.store t x y,ty,pos,af,none⟩::rest) a w:=
 aN hI hx (vs:=vs.map (Value.int .i64)) (by rw[hv];rfl) (by rw[ZK zs vs bs off OM];exact hu) hT.size (by simpa using hl) (by rw[yR];omega) (Jd vs) k
theorem o7{x y:Operand}{t b off j:Nat}{e:TypeId}{zs:List Int}{bs:List Bool}{v:Bool}(hI:Inv T w0 w m)(hx:a.eval x=.pointer (some ⟨b,off,none⟩))(hv:a.eval y=.bool v)(hl:off=zs.length+j)(hu:aR (xf b e zs bs) (xf b e zs (bs.set j v)) m m')
  (hT:jg P t) (hj:j<bs.length)
  (k:∀w',Inv T w0 w' m'->wpList P ops Q rest (a.put dst undef) w'):wpList P ops Q (⟨dst,.store t x y,ty,pos,af,none⟩::rest) a w:=
 jF hI hx hv rfl rfl (by rw[hl,ZM];exact hu) hT (by rw[yR];omega) k
theorem Rj(zs:List Int)(bs:List Bool)(i:Nat)(v:Int)(h:i<zs.length):(mix zs bs).set i (.int .i64 v)=mix (zs.set i v) bs:=by
 unfold mix;rw[List.set_append_left _ _ (by simpa using h),List.map_set]
theorem kX{x y:Operand}{t b off:Nat}{e:TypeId}{zs:List Int}{bs:List Bool}{v:Int}(hI:Inv T w0 w m)(hx:a.eval x=.pointer (some ⟨b,off,none⟩))(hv:a.eval y=.int .i64 v)(hu:aR (xf b e zs bs) (xf b e (zs.set off v) bs) m m')
  (hT:jg P t) (hj:off<zs.length)
  (k:∀w',Inv T w0 w' m'->wpList P ops Q rest (a.put dst undef) w'):wpList P ops Q (⟨dst,.store t x y,ty,pos,af,none⟩::rest) a w:=
 jF hI hx hv rfl rfl (by rw[Rj _ _ _ _ hj];exact hu) hT (by rw[yR];omega) k
def bb(b:Nat)(e:TypeId)(bs:List Bool):aG:=blk b e (bs.map Value.bool)
theorem yS{w:World}{b:Nat}{e:TypeId}{zs:List Int}{bs:List Bool}(hb:w.heap[b]? =some (.cells (mix zs bs).toArray e (0,0))):Inv [b] w w [xf b e zs bs]:=Inv.take hb
theorem Inv.mbk(h:Inv T w0 w m){b:Nat}{e:TypeId}{zs:List Int}{bs:List Bool}(hm:xf b e zs bs∈m):w.heap[b]? =some (.cells (mix zs bs).toArray e (0,0)):=h.blk hm
theorem Inv.ibk(h:Inv T w0 w m){b:Nat}{e:TypeId}{zs:List Int}(hm:ib b e zs∈m):w.heap[b]? =some (.cells (zs.map (Value.int .i64)).toArray e (0,0)):=h.blk hm
def ab3(P:Program)(t n k:Nat):Prop:=(P.info? t).map (·.zero)=some (some (.agg (mix (aj n) (List.replicate k false)).toArray))
end
namespace C
theorem ab0:fw prog 54 5:=⟨by kernel_rfl,by kernel_rfl⟩
end C
section
open Go.RowKit Go.Conc
section
variable {P:Program}{Q:Exit->Act->World->Prop}{a:Act}{w:World}
def lu(P:Program)(c:Code)(Q:Exit->Act->World->Prop)(a:Act)(w:World):Prop:=
 ∀(b:Frame) (k:List Item) (cs:List Frame),b.kind=.normal->∃e a' w',Q e a' w'∧Arrives P (lone (b.at a (.code c::k)) cs w) b k cs e a' w'
def kJ(P:Program)(ops:Array Oper)(l:List Nat)(Q:Exit->Act->World->Prop)(a:Act)(w:World):Prop:=
 ∀(b:Frame) (k:List Item) (cs:List Frame),b.kind=.normal->∃e a' w',Q e a' w'∧Arrives P (lone (b.at a (.inRegion ops l::k)) cs w) b k cs e a' w'
theorem lu.of{c:Code}(h:c.wp P Q a w):lu P c Q a w:=λb k cs _=>h b k cs
theorem lu.seq{x y:Code}(h:lu P x (Exit.then (lu P y Q) Q) a w):lu P (.seq x y) Q a w:=by
 intro b k cs hk;obtain⟨e,a₁,w₁,hq,harr⟩:=h b (.code y::k) cs hk;cases e with
 |normal=>
  obtain⟨e₂,a₂,w₂,hq₂,harr₂⟩:=hq b k cs hk;exact⟨e₂,a₂,w₂,hq₂,.of_steps (.head step_seq harr) harr₂⟩
 |exit id=>exact⟨_,a₁,w₁,hq,.of_steps (.one step_seq) (.pass (x:=.code y) rfl (λ_ _=> .inl SI) harr)⟩
 |goto l=>exact⟨_,a₁,w₁,hq,.of_steps (.one step_seq) (.pass (x:=.code y) rfl (λ_ _=> .inl SI) harr)⟩
 |ret=>exact⟨_,a₁,w₁,hq,.of_steps (.one step_seq) (.pass (x:=.code y) rfl (λ_ _=> .inl SI) harr)⟩
 |panic ch=>exact⟨_,a₁,w₁,hq,.of_steps (.one step_seq) (.pass (x:=.code y) rfl (λ_ _=> .inl SI) harr)⟩
 |outgrown=>exact⟨_,a₁,w₁,hq,.of_steps (.one step_seq) (.pass (x:=.code y) rfl (λ_ _=> .inl SI) harr)⟩
theorem lu.block{id:Nat}{c:Code}(h:lu P c (Exit.inBlock id Q) a w):lu P (.block id c) Q a w:=by
 intro b k cs hk;obtain⟨e,a₁,w₁,hq,harr⟩:=h b (.inBlock id::k) cs hk;cases e with
 |normal=>exact⟨.normal,a₁,w₁,hq,.head step_block (Steps.trans harr (.one step_inBlock))⟩
 |exit id'=>
  by_cases hid:id'=id
  ·simp only[Exit.inBlock,hid,if_true]at hq
   exact⟨.normal,a₁,w₁,hq,.head step_block (harr k (by simp[exitTo,hid]))⟩
  ·simp only[Exit.inBlock,hid,if_false]at hq
   refine⟨.exit id',a₁,w₁,hq,λk' hk=> .head step_block (harr k' ?_)⟩;have:(id==id')=false:=by simp;exact λh=>hid h.symm
   simp[exitTo,this,hk]
 |goto l=>exact⟨_,a₁,w₁,hq,λk' hk=> .head step_block (harr k' (by simp[gotoIn,hk]))⟩
 |ret=>exact⟨_,a₁,w₁,hq,.of_steps (.one step_block) harr⟩
 |panic ch=>exact⟨_,a₁,w₁,hq,.of_steps (.one step_block) harr⟩
 |outgrown=>exact⟨_,a₁,w₁,hq,.of_steps (b:=b) (k:=k) (cs:=cs) (e:=.outgrown) (.one step_block) harr⟩
theorem lu.loop{c:Code}(I:Act->World->Prop)(μ:Act->World->Nat)(h₀:I a w)
  (round:∀a w,I a w->lu P c (Exit.then (λa' w'=>I a' w'∧μ a' w'<μ a w) Q) a w):lu P (.loop c) Q a w:=by
 intro b k cs hk;have key:∀n a w,μ a w=n->I a w->
   ∃e a' w',Q e a' w'∧Arrives P (lone (b.at a (.code c::.inLoop c::k)) cs w) b k cs e a' w':=by
  intro n
  induction n using Nat.strongRecOn with
  |_ n ih=>
   intro a w hn hI;obtain⟨e,a₁,w₁,hq,harr⟩:=round a w hI b (.inLoop c::k) cs hk;cases e with
   |normal=>
    obtain⟨hI₁,hlt⟩:=hq;obtain⟨e₂,a₂,w₂,hq₂,harr₂⟩:=ih (μ a₁ w₁) (hn▸hlt) a₁ w₁ rfl hI₁;exact⟨e₂,a₂,w₂,hq₂,.of_steps (Steps.trans harr (.one step_inLoop)) harr₂⟩
   |exit id=>exact⟨_,a₁,w₁,hq,.pass (x:=.inLoop c) rfl (λ_ _=> .inl SI) harr⟩
   |goto l=>exact⟨_,a₁,w₁,hq,.pass (x:=.inLoop c) rfl (λ_ _=> .inl SI) harr⟩
   |ret=>exact⟨_,a₁,w₁,hq,.pass (x:=.inLoop c) rfl (λ_ _=> .inl SI) harr⟩
   |panic ch=>exact⟨_,a₁,w₁,hq,.pass (x:=.inLoop c) rfl (λ_ _=> .inl SI) harr⟩
   |outgrown=>exact⟨_,a₁,w₁,hq,.pass (x:=.inLoop c) rfl (λ_ _=> .inl SI) harr⟩
 obtain⟨e,a',w',hq,harr⟩:=key _ a w rfl h₀;exact⟨e,a',w',hq,.of_steps (.one step_loop) harr⟩
theorem lu.region{id:Nat}{ops:Array Oper}(h:kJ P ops (List.range ops.size) Q a w):lu P (.region id ops false) Q a w:=
 λb k cs hk=>let ⟨e,a',w',q,r⟩:=h b k cs hk;⟨e,a',w',q,.of_steps (.one step_region) r⟩
theorem kJ.ops{ops:Array Oper}{l:List Nat}(h:wpOps P ops Q l a w):kJ P ops l Q a w:=λb k cs _=>wp_ops l a w h b k cs
theorem kJ.pre{ops:Array Oper}{r:List Nat}(l:List Nat):∀ {a:Act} {w:World},wpOps P ops (λe a w=>e=.normal∧kJ P ops r Q a w) l a w->kJ P ops (l++r) Q a w:=by
 induction l with
 |nil=>exact λh=>h.2
 |cons i rest ih=>
  intro a w h b k cs hkd;simp only[wpOps]at h;rw[List.cons_append];cases ho:ops[i]? with
  |none=>
   simp only[ho]at h;obtain⟨e,a',w',hq,harr⟩:=ih h b k cs hkd;have hs:=step_op_skip (P:=P) (b:=b) (a:=a) (k:=k) (cs:=cs) (w:=w) (ops:=ops) (i:=i) (rest:=rest++r) (by simp[ho]);simp only[ho,Option.bind_none,Act.put]at hs;exact⟨e,a',w',hq,.of_steps (.one hs) harr⟩
  |some o=>
   simp only[ho]at h;by_cases hw:Region.wanted o (yielded ops a.tmps)=true
   ·simp only[hw,if_true]at h
    rcases h with h| ⟨_,a₀,w₀,hq⟩
    case inr=>cases hq.1
    simp only[Oper.wp,Oper.upon]at h;have hg:=stepG_op (P:=P) (b:=b) (k:=k) (cs:=cs) (w:=w) (rest:=rest++r) ho hw;have hfin:∀v,(b.at a (.inRegion ops (i::(rest++r))::k)).finish v=b.at (a.put o.dst v) (.inRegion ops (rest++r)::k):=by
     intro v;rw[Frame.finish_at,ho];rfl
    split at h
    ·rename_i v w' hr
     obtain⟨e,a',w'',hq,harr⟩:=ih h b k cs hkd;refine⟨e,a',w'',hq,.of_steps (.one (step_lone_go ?_)) harr⟩;rw[hg,<-hfin];simp[stepG.apply,hr]
    ·rename_i w' hr
     obtain⟨e,a',w'',hq,harr⟩:=ih h b k cs hkd;refine⟨e,a',w'',hq,.of_steps (.one (step_lone_go ?_)) harr⟩;rw[hg,<-hfin];simp[stepG.apply,hr]
    ·rename_i d w' hr
     obtain⟨e,a',w'',hq,harr⟩:=ih h b k cs hkd;refine⟨e,a',w'',hq,.of_steps (.one (step_lone_go ?_)) harr⟩;have:({b.at a (.inRegion ops (i::(rest++r))::k)with defers:=d::a.defers}:Frame).finish undef=
       b.at ({a with defers:=d::a.defers}.put o.dst undef) (.inRegion ops (rest++r)::k):=by
      have:=Frame.finish_at b {a with defers:=d::a.defers} ops i (rest++r) k undef;rw[ho]at this;exact this
     rw[hg];simp only[stepG.apply,Sem.runT_eq,hr,GStep.bare_after];exact congrArg (λfr=>GStep.go {frame:=fr,callers:=cs,status:=.running,dying:=none} w') this
    ·rename_i f args w' hr
     obtain⟨e,w'',fr,hR,hsteps,_,hleave⟩:=h (b.at a (.inRegion ops (i::(rest++r))::k)::cs);have henter:step P (lone (b.at a (.inRegion ops (i::(rest++r))::k)) cs w)=
       .next (lone (Frame.enter P f args .normal) (b.at a (.inRegion ops (i::(rest++r))::k)::cs) w'):=
      step_lone_go (by rw[hg];simp[stepG.apply,hr,Frame.at])
     cases e with
     |returned v=>
      obtain⟨e,a',w₃,hq,harr⟩:=ih hR b k cs hkd;refine⟨e,a',w₃,hq,.of_steps (.head henter (hsteps.trans (.one ?_))) harr⟩;rw[<-hfin];exact step_leave_returned hleave
     |panicked chain=>cases hR.1
     |outgrown=>
      obtain⟨a₀,w₀,hq⟩:=hR;cases hq.1
    ·rename_i row args w' hr
     obtain⟨v,w'',hR,hsteps⟩:=h (b.at a (.inRegion ops (i::(rest++r))::k)) cs;have henter:step P (lone (b.at a (.inRegion ops (i::(rest++r))::k)) cs w)=
       .next (lone (Frame.ofRow P row args .normal) (b.at a (.inRegion ops (i::(rest++r))::k)::cs) w'):=
      step_lone_go (by rw[hg];simp[stepG.apply,hr,Frame.at])
     obtain⟨e,a',w₃,hq,harr⟩:=ih hR b k cs hkd;refine⟨e,a',w₃,hq,.of_steps (.head henter ?_) harr⟩;rw[<-hfin];exact hsteps
    ·rename_i v w' hr
     cases h.1
    ·exact h.elim
   ·simp only[hw,if_false,Bool.false_eq_true]at h
    obtain⟨e,a',w',hq,harr⟩:=ih h b k cs hkd;have hs:=step_op_skip (P:=P) (b:=b) (a:=a) (k:=k) (cs:=cs) (w:=w) (ops:=ops) (i:=i) (rest:=rest++r)
     (by simp[ho];simpa using hw)
    simp only[ho,Option.bind_some]at hs;exact⟨e,a',w',hq,.of_steps (.one hs) harr⟩
theorem kJ.comm{ops:Array Oper}{i:Nat}{rest:List Nat}{o:Oper}{cases:Array CommCase}{blocking:Bool}{shape:CommShape}{v:Value}{w':World}(ho:ops[i]? =some o)(hw:Region.wanted o (yielded ops a.tmps)=true)
  (hr:(execOp a.eval o).run P w=.ok (.comm cases blocking shape) w)
  (hstep:∀(fr:Frame) (cs:List Frame) (es:Array Event),stepG P true (G fr cs) w=.comm (G fr cs) cases blocking shape w es->step P (solo (G fr cs) w)=.next (solo (G (fr.finish v) cs) w'))
  (h:kJ P ops rest Q (a.put o.dst v) w'):kJ P ops (i::rest) Q a w:=by
 intro b k cs hk;obtain⟨e,a',w'',q,arr⟩:=h b k cs hk;refine⟨e,a',w'',q,.of_steps (.one ?_) arr⟩;have:=hstep _ cs _ (stepG_comm (main:=true) (k:=k) (cs:=cs) (rest:=rest) ho hw (by rw[hk];decide) hr);rw[Frame.finish_at,ho]at this;exact this
theorem Rm{ops:List Oper}{Q':Exit->Act->World->Prop}(pre:List Oper)(hp:ops.take pre.length=pre)(h:wpList P ops.toArray Q' pre a w):wpOps P ops.toArray Q' (List.range' 0 pre.length) a w:=by
 have key:∀(l:List Oper) (k:Nat),(∀j,j<l.length->l[j]? =ops.toArray[k+j]?)->wpOps P ops.toArray Q' (List.range' k l.length)=wpList P ops.toArray Q' l:=by
  intro l
  induction l with
  |nil=>intro k _;funext a w;simp[wpOps,wpList]
  |cons o l ih=>
   intro k h;have h0:ops.toArray[k]? =some o:=by simpa using(h 0 SI).symm
   have ih':=ih (k+1) (λj hj=>by have:=h (j+1) (by simpa using hj);simpa[Nat.add_assoc,Nat.add_comm 1 j]using this);funext a w;simp only[List.length_cons,List.range'_succ,wpOps,h0,wpList,ih']
 rw[key pre 0 (λj hj=>by
  have e:pre[j]? =(ops.take pre.length)[j]? :=by rw[hp]
  rw[e,List.getElem?_take,if_pos hj];simp)]
 exact h
theorem kJ.list{ops:List Oper}(k:Nat)(l:List Oper)(hl:ops.drop k=l)(h:wpList P ops.toArray Q l a w):kJ P ops.toArray (List.range' k l.length) Q a w:=
 kJ.ops (by rw[wpOps_eq_wpList l k (λj=>by subst hl;simp)];exact h)
theorem kJ.ah2{ops:List Oper}(pre:List Oper){r:List Nat}(hp:ops.take pre.length=pre)(h:wpList P ops.toArray (λe a w=>e=.normal∧kJ P ops.toArray r Q a w) pre a w):kJ P ops.toArray (List.range' 0 pre.length++r) Q a w:=
 kJ.pre _ (Rm pre hp h)
theorem kJ.adg{ops:List Oper}(n:Nat){r:List Nat}(h:wpList P ops.toArray (λe a w=>e=.normal∧kJ P ops.toArray r Q a w) (ops.take n) a w):kJ P ops.toArray (List.range' 0 (ops.take n).length++r) Q a w:=
 kJ.ah2 _ (by rw[List.length_take];exact List.take_eq_take_iff.2 OM) h
theorem pO{f:FuncId}{fn:Func}{c:Code}{args:Array Value}{R:Ending->World->Prop}(hf:P.funcs[f]? =some fn)(hb:fn.body=some c)
  (h:lu P c (bodyPost P fn R) {tmps:=args++Array.replicate (fn.ntmps-args.size) undef,defers:=[]} w):Calls P f args w R:=by
 intro cs
 let b:Frame:={(default:Frame)with fn:=f,kind:=.normal}
 have henter:Frame.enter P f args .normal=
   b.at {tmps:=args++Array.replicate (fn.ntmps-args.size) undef,defers:=[]} [.code c]:=by
  simp[Frame.enter,Frame.at,hf,hb,b]
 obtain⟨e,a',w',hq,harr⟩:=h b [] cs rfl;rw[<-henter]at harr;cases e with
 |normal=>
  obtain⟨hd,v,hr,hR⟩:=hq;exact⟨.returned v,w',_,hR,Steps.trans harr (.one step_end),rfl,rfl,hd,rfl,fn,hf,hr⟩
 |ret=>
  obtain⟨hd,v,hr,hR⟩:=hq;obtain⟨todo,hs⟩:=harr;exact⟨.returned v,w',_,hR,hs,rfl,rfl,hd,rfl,fn,hf,hr⟩
 |exit id=>exact hq.elim
 |goto l=>exact hq.elim
 |panic chain=>
  obtain⟨hd,hR⟩:=hq;obtain⟨todo,hs⟩:=harr;exact⟨.panicked chain,w',_,hR,hs,rfl,rfl,hd,fn,hf⟩
 |outgrown=>exact⟨.outgrown,w',b,hq,harr.resolve_left (by simp[b]),rfl,trivial⟩
end
end
namespace A
open Go.RowKit Go.Conc
theorem ZV(w:World):(zeroValue 63).run prog w=.ok (.slice none 0 0) w:=by
 have hz:(prog.info? 63).map (·.zero)=some (some (.slice none 0 0)):=by kernel_rfl
 obtain⟨inf,zM,hz'⟩:=Option.map_eq_some_iff.1 hz;simp[zeroValue,typeInfo,zM,hz']
theorem Vg(w0:World)(pb c cap s r:Nat)(v:Value)(vs:List Value)(hb:w0.heap[pb]? =some (.cells #[.chan (some c)] 183 (0,0)))(hc:w0.heap[c]? =some (.chan cap (v::vs).toArray false s r false)):
  Calls prog 111 #[.pointer (some ⟨pb,0,none⟩)] w0 λe w'=>e=.returned (.tuple #[v,.bool true])∧w'=w0.setChan c cap vs.toArray false s (r+1) false:=by
 have hcell:w0.cell? ⟨pb,0,none⟩=some (.chan (some c)):=by simp[World.cell?,hb]
 refine pO func111 rfl ?_;simp only[ntmps111,List.size_toArray,List.length_cons,List.length_nil,Nat.reduceAdd,Nat.reduceSub,Array.replicate_succ,Array.replicate_zero,List.push_toArray,List.append_toArray,List.nil_append,List.cons_append];refine lu.seq (lu.of ?_)
 go_wp2
 refine lu.seq (lu.of ?_)
 go_wp2
 refine lu.seq (lu.region ?_);have hz:=ZV w0;refine kJ.comm (i:=0) (rest:=List.range' 1 2) rfl rfl (cases:= #[rcase c (.slice none 0 0)]) (blocking:=false) (shape:=.select) (by simp[execOp,rcase,Act.eval,Sem.run_bind,hz,Result.andThen]) (λfr cs es h=>step_lone_select_recv_buf h hc SI) ?_;refine kJ.list 1 _ rfl ?_;have e1:(v::vs).toArray.getD 0 undef=v:=by simp
 have e2:(v::vs).toArray.extract 1=vs.toArray:=by simp
 rw[e1,e2];generalize w0.setChan c cap vs.toArray false s (r+1) false=w1
 (simp only[List.drop_succ_cons,List.drop_zero,Act.put,List.setIfInBounds_toArray,QG,QS,goInt])
 go_wp2
 refine lu.of ?_
 go_wp2
 go_ret2
 exact⟨rfl,rfl⟩
theorem nA(w:World)(c cap:Nat)(buf:Array Value)(cl:Bool)(s r:Nat)(tm:Bool):Step [c] w (w.setChan c cap buf cl s r tm):=
 ⟨rfl,rfl,rfl,by simp[World.setChan],λk _ hn=>by
  simp only[World.setChan];rw[Array.getElem?_setIfInBounds_ne (by rintro rfl;exact hn SI)]⟩
theorem Hy(w0:World)(pb c cap s r:Nat)(vs:List Value)(hb:w0.heap[pb]? =some (.cells #[.chan (some c)] 183 (0,0)))(hc:w0.heap[c]? =some (.chan cap vs.toArray false s r false))(hroom:vs.length<cap)
  (a:Option Addr) (cp:Nat) (bs:List UInt8) (hr:Rd w0 a (bs.map bv)) (hl:bs.length<=100000):
  Calls prog 110 #[.pointer (some ⟨pb,0,none⟩),.slice a bs.length cp] w0 λe w'=>e=.returned (.bool true)∧∃a1 c1,(bf 5 1 (.slice a1 bs.length c1) bs.length (bs.map bv)).sat w'∧Step [c] w0 w'∧
   w'.heap[c]? =some (.chan cap (vs++[Value.slice a1 bs.length c1]).toArray false (s+1) r false)∧∀k∈(bf 5 1 (.slice a1 bs.length c1) bs.length (bs.map bv)).own,w0.heap.size<=k∧k<w'.heap.size:=by
 have hcell:w0.cell? ⟨pb,0,none⟩=some (.chan (some c)):=by simp[World.cell?,hb]
 have hlt:c<w0.heap.size:=(Array.getElem?_eq_some_iff.1 hc).1;have hI:=Inv.start w0;refine pO func110 rfl ?_;simp only[ntmps110,List.size_toArray,List.length_cons,List.length_nil,Nat.reduceAdd,Nat.reduceSub,Array.replicate_succ,Array.replicate_zero,List.push_toArray,List.append_toArray,List.nil_append,List.cons_append];refine lu.seq (lu.of ?_)
 go_wp2
 refine lu.seq (lu.of ?_);go_wp2_with(first|(with_reducible refine nk hI nM ?_;intro bx w hI)|(with_reducible refine az (q:=bs.length) hI RF RF nM (by intro r';exact aR.here) (hI.Jg hr) SI (xH _) MX OM ?_;intro a1 c1 w hI));refine lu.seq (lu.region ?_);simp only[Nat.zero_add,List.nil_append]at hI|-;have hz:=ZV w;have hcw:w.heap[c]? =some (.chan cap vs.toArray false s r false):=(hI.old c hlt SI).trans hc;simp only[QN];refine kJ.comm (i:=0) (rest:=List.range' 1 2) rfl rfl (cases:= #[scase c (.slice a1 bs.length c1) (.slice none 0 0)]) (blocking:=false) (shape:=.select) (by simp[execOp,scase,Act.eval,Sem.run_bind,hz,Result.andThen]) (λfr cs es h=>step_lone_select_send_room h hcw (by simpa using hroom)) ?_;refine kJ.list 1 _ rfl ?_;have hst:=nA w c cap (vs.toArray.push (.slice a1 bs.length c1)) false (s+1) r false;have hlt2:c<w.heap.size:=(Array.getElem?_eq_some_iff.1 hcw).1;have hnew:=heap_setChan w c cap (vs.toArray.push (.slice a1 bs.length c1)) false (s+1) r false hlt2;generalize w.setChan c cap (vs.toArray.push (.slice a1 bs.length c1)) false (s+1) r false=w1 at*
 (simp only[List.drop_succ_cons,List.drop_zero,Act.put,List.setIfInBounds_toArray,QG,QS,goInt])
 go_wp2
 refine lu.of ?_
 go_wp2
 go_ret;have hown:∀k∈(bf 5 1 (.slice a1 bs.length c1) bs.length (bs.map bv)).own,w0.heap.size<=k∧k<w.heap.size:=λk hk=>by
  have:=hI.mine k (dE.2 ⟨_,by simp,hk⟩);exact⟨this.1.resolve_right SI,this.2⟩
 refine⟨rfl,a1,c1,?_,?_,?_,?_⟩
 ·exact(bf 5 1 (.slice a1 bs.length c1) bs.length (bs.map bv)).loc w w1 (λk hk=>hst.same k (hown k hk).2 (by have:=(hown k hk).1;simp;omega)) (hI.sat _ SI)
 ·exact(hI.end_.mono SI).trans hst
 ·rw[hnew];simp
 ·exact λk hk=>⟨(hown k hk).1,Nat.lt_of_lt_of_le (hown k hk).2 hst.size⟩
theorem Nb(w0:World)(pb c cap s r:Nat)(vs:List Value)(hb:w0.heap[pb]? =some (.cells #[.chan (some c)] 183 (0,0)))(hc:w0.heap[c]? =some (.chan cap vs.toArray false s r false))(hfull:cap<=vs.length)
  (a:Option Addr) (cp:Nat) (bs:List UInt8) (hr:Rd w0 a (bs.map bv)) (hl:bs.length<=100000):
  Calls prog 110 #[.pointer (some ⟨pb,0,none⟩),.slice a bs.length cp] w0 λe w'=>e=.returned (.bool false)∧Below w0.heap.size w0 w':=by
 have hcell:w0.cell? ⟨pb,0,none⟩=some (.chan (some c)):=by simp[World.cell?,hb]
 have hlt:c<w0.heap.size:=(Array.getElem?_eq_some_iff.1 hc).1;have hI:=Inv.start w0;refine pO func110 rfl ?_;simp only[ntmps110,List.size_toArray,List.length_cons,List.length_nil,Nat.reduceAdd,Nat.reduceSub,Array.replicate_succ,Array.replicate_zero,List.push_toArray,List.append_toArray,List.nil_append,List.cons_append];refine lu.seq (lu.of ?_)
 go_wp2
 refine lu.seq (lu.of ?_);go_wp2_with(first|(with_reducible refine nk hI nM ?_;intro bx w hI)|(with_reducible refine az (q:=bs.length) hI RF RF nM (by intro r';exact aR.here) (hI.Jg hr) SI (xH _) MX OM ?_;intro a1 c1 w hI));refine lu.seq (lu.region ?_);simp only[Nat.zero_add,List.nil_append]at hI|-;have hz:=ZV w;have hcw:w.heap[c]? =some (.chan cap vs.toArray false s r false):=(hI.old c hlt SI).trans hc;simp only[QN];refine kJ.comm (i:=0) (rest:=List.range' 1 2) rfl rfl (cases:= #[scase c (.slice a1 bs.length c1) (.slice none 0 0)]) (blocking:=false) (shape:=.select) (by simp[execOp,scase,Act.eval,Sem.run_bind,hz,Result.andThen]) (λfr cs es h=>step_lone_select_send_full h hcw (by simpa using hfull)) ?_;refine kJ.list 1 _ rfl ?_
 (simp only[List.drop_succ_cons,List.drop_zero,Act.put,List.setIfInBounds_toArray,QG,QS,goInt])
 go_wp2
 refine lu.of ?_
 go_wp2
 go_ret;exact⟨rfl,hI.below⟩
end A
namespace A
open Go.RowKit Go.Conc
def qv(q:Option Addr×Nat×List UInt8):Value:=.slice q.1 q.2.2.length q.2.1
def qr(q:Option Addr×Nat×List UInt8):aG:=bf 5 1 (qv q) q.2.2.length (q.2.2.map bv)
def ma(pb c cap:Nat)(qs:List (Option Addr×Nat×List UInt8)):aG:=
 ⟨pb::c::owned (qs.map qr),λw=>w.heap[pb]? =some (.cells #[.chan (some c)] 183 (0,0))∧(∃s r,w.heap[c]? =some (.chan cap (qs.map qv).toArray false s r false))∧∀x∈qs.map qr,x.sat w,λw w' h hs=>by
  obtain⟨h1,⟨s,r,h2⟩,h3⟩:=hs;refine⟨by rw[h pb SI];exact h1,⟨s,r,by rw[h c SI];exact h2⟩,λx hx=>x.loc w w' (λk hk=>h k ?_) (h3 x hx)⟩;exact List.mem_cons_of_mem _ (List.mem_cons_of_mem _ (dE.2 ⟨x,hx,hk⟩))⟩
theorem yT{w:World}{pb c cap:Nat}{qs:List (Option Addr×Nat×List UInt8)}(hs:(ma pb c cap qs).sat w)(hn:(ma pb c cap qs).own.Nodup):Inv (ma pb c cap qs).own w w [ma pb c cap qs]:=by
 refine⟨rfl,rfl,rfl,Nat.le_refl _,λ_ _ _=>rfl,λx hx=>by obtain rfl:=List.mem_singleton.1 hx;exact hs,λk hk=>?_,by simpa[owned]using hn⟩;have hk2:k∈(ma pb c cap qs).own:=by simpa[owned]using hk
 refine⟨.inr hk2,?_⟩;obtain⟨h1,⟨s,r,h2⟩,h3⟩:=hs;simp only[ma,List.mem_cons]at hk2;rcases hk2 with rfl|rfl|hk2
 ·exact(Array.getElem?_eq_some_iff.1 h1).1
 ·exact(Array.getElem?_eq_some_iff.1 h2).1
 ·obtain⟨x,hx,hkx⟩:=dE.1 hk2
  obtain⟨q,hq,rfl⟩:=List.mem_map.1 hx;rcases(h3 _ hx).2 with⟨h0,_⟩ | ⟨g,cp,cur,h0,_,hg,_⟩
  ·simp only[qr,bf,h0,Value.ownBlock]at hkx
   simp at hkx
  ·simp only[qr,bf,h0,Value.ownBlock]at hkx
   simp at hkx;subst hkx;exact(Array.getElem?_eq_some_iff.1 hg).1
theorem Hz(w0:World)(pb c cap:Nat)(qs:List (Option Addr×Nat×List UInt8))(hs:(ma pb c cap qs).sat w0)(hn:(ma pb c cap qs).own.Nodup)(hroom:qs.length<cap)
  (a:Option Addr) (cp:Nat) (bs:List UInt8) (hr:Rd w0 a (bs.map bv)) (hl:bs.length<=100000):
  Calls prog 110 #[.pointer (some ⟨pb,0,none⟩),.slice a bs.length cp] w0 λe w'=>e=.returned (.bool true)∧∃a1 c1,Inv (ma pb c cap qs).own w0 w' [ma pb c cap (qs++[(a1,c1,bs)])]:=by
 have hI:=yT hs hn;obtain⟨h1,⟨s,r,h2⟩,h3⟩:=hs;refine(Hy w0 pb c cap s r (qs.map qv) h1 h2 (by simpa using hroom) a cp bs hr hl).mono ?_;rintro e w' ⟨he,a1,c1,ES,hst,hc,hown⟩;have hcT:c∈(ma pb c cap qs).own:=by simp[ma]
 have hne:pb≠c:=by
  have:=hn;simp only[ma,List.nodup_cons,List.mem_cons,not_or]at this;exact this.1.1
 refine⟨he,a1,c1,hst.os,hst.tape,hst.output,hst.size,λk hk Mc=>hst.same k hk (λh=>Mc (by rw[List.mem_singleton.1 h];exact hcT)),λx hx=>?_,λk hk=>?_,?_⟩
 ·obtain rfl:=List.mem_singleton.1 hx
  refine⟨?_,⟨s+1,r,?_⟩,λy hy=>?_⟩
  ·rw[hst.same pb (hI.mine pb (by simp[owned,ma])).2 (by simpa using hne)];exact h1
  ·rw[hc];simp[qv]
  ·rw[List.map_append,List.mem_append]at hy
   rcases hy with hy|hy
   ·refine y.loc w0 w' (λk hk=>hst.same k (hI.mine k (by simp only[owned,List.flatMap_cons,List.flatMap_nil,List.append_nil];exact List.mem_cons_of_mem _ (List.mem_cons_of_mem _ (dE.2 ⟨y,hy,hk⟩)))).2 ?_) (h3 y hy)
    have hnd:=hn;simp only[ma,List.nodup_cons]at hnd;simp only[List.mem_singleton];rintro rfl;exact hnd.2.1 (dE.2 ⟨y,hy,hk⟩)
   ·simp only[List.map_cons,List.map_nil,List.mem_singleton]at hy
    subst hy;exact ES
 ·have hk2:k∈(ma pb c cap qs).own∨k∈(bf 5 1 (.slice a1 bs.length c1) bs.length (bs.map bv)).own:=by
   simp only[owned,List.flatMap_cons,List.flatMap_nil,List.append_nil,ma,List.map_append,List.map_cons,List.map_nil,List.flatMap_append,List.mem_cons,List.mem_append]at hk|-;rcases hk with h|h|h|h
   ·exact .inl (.inl h)
   ·exact .inl (.inr (.inl h))
   ·exact .inl (.inr (.inr h))
   ·exact .inr h
  rcases hk2 with h|h
  ·have:=hI.mine k (by simpa[owned]using h)
   exact⟨.inr h,Nat.lt_of_lt_of_le this.2 hst.size⟩
  ·exact⟨.inl (hown k h).1,(hown k h).2⟩
 ·have e:owned [ma pb c cap (qs++[(a1,c1,bs)])]=(ma pb c cap qs).own++(bf 5 1 (.slice a1 bs.length c1) bs.length (bs.map bv)).own:=by
   simp[owned,ma,qr,qv]
  rw[e,List.nodup_append];refine⟨hn,by cases a1<;>simp[bf,Value.ownBlock],λk hk j hj=>?_⟩;have h1:=(hI.mine k (by simpa[owned]using hk)).2;have h2:=(hown j hj).1;omega
theorem Vh(w0:World)(pb c cap:Nat)(q:Option Addr×Nat×List UInt8)(qs:List (Option Addr×Nat×List UInt8))(hs:(ma pb c cap (q::qs)).sat w0)(hn:(ma pb c cap (q::qs)).own.Nodup):
  Calls prog 111 #[.pointer (some ⟨pb,0,none⟩)] w0 λe w'=>e=.returned (.tuple #[qv q,.bool true])∧Inv (ma pb c cap (q::qs)).own w0 w' [qr q,ma pb c cap qs]:=by
 have hI:=yT hs hn;obtain⟨h1,⟨s,r,h2⟩,h3⟩:=hs;refine(Vg w0 pb c cap s r (qv q) (qs.map qv) h1 (by simpa using h2)).mono ?_;rintro e w' ⟨he,hw⟩;have hlt:=(Array.getElem?_eq_some_iff.1 h2).1;have hst:Step [c] w0 w':=by rw[hw];exact nA _ _ _ _ _ _ _ _
 have hc:w'.heap[c]? =some (.chan cap (qs.map qv).toArray false s (r+1) false):=by rw[hw];exact heap_setChan _ _ _ _ _ _ _ _ hlt
 clear hw;have hcT:c∈(ma pb c cap (q::qs)).own:=by simp[ma]
 have hnd:=hn;simp only[ma,List.nodup_cons,List.mem_cons,not_or]at hnd;have hkeep:∀y∈(q::qs).map qr,y.sat w':=λy hy=>by
  refine y.loc w0 w' (λk hk=>hst.same k (hI.mine k (by simp only[owned,List.flatMap_cons,List.flatMap_nil,List.append_nil];exact List.mem_cons_of_mem _ (List.mem_cons_of_mem _ (dE.2 ⟨y,hy,hk⟩)))).2 ?_) (h3 y hy);simp only[List.mem_singleton];rintro rfl;exact hnd.2.1 (dE.2 ⟨y,hy,hk⟩)
 have hperm:(owned [qr q,ma pb c cap qs]).Perm (ma pb c cap (q::qs)).own:=by
  simp only[owned,ma,List.flatMap_cons,List.flatMap_nil,List.append_nil,List.map_cons];exact(List.perm_middle.trans (List.Perm.cons _ List.perm_middle))
 refine⟨he,hst.os,hst.tape,hst.output,hst.size,λk hk Mc=>hst.same k hk (λh=>Mc (by rw[List.mem_singleton.1 h];exact hcT)),λx hx=>?_,λk hk=>?_,hperm.nodup_iff.2 hn⟩
 ·rcases List.mem_cons.1 hx with rfl|hx
  ·exact hkeep _ SI
  ·obtain rfl:=List.mem_singleton.1 hx
   refine⟨?_,⟨s,r+1,hc⟩,λy hy=>hkeep y (by simp only[List.map_cons,List.mem_cons];exact .inr hy)⟩;rw[hst.same pb (hI.mine pb (by simp[owned,ma])).2 (by simpa using hnd.1.1)];exact h1
 ·have hk2:=hperm.subset hk
  exact⟨.inr hk2,Nat.lt_of_lt_of_le (hI.mine k (by simpa[owned]using hk2)).2 hst.size⟩
end A
namespace A
open Go.RowKit Go.Conc
section
variable {P:Program}{ops:Array Oper}{Q:Exit->Act->World->Prop}{a:Act}{rest:List Oper}{w:World}{dst:Option Tmp}{ty:TypeId}{pos:String}{af:Array Edge}
theorem Bi{x:Operand}{t e:TypeId}{dir:ChanDir}{c cap s r:Nat}{buf:Array Value}{closed:Bool}(ht:P.underlying t=some (.chan dir e))(hx:a.eval x=.chan (some c))(hc:w.heap[c]? =some (.chan cap buf closed s r false))
  (k:wpList P ops Q rest (a.put dst (.int .i64 buf.size)) w):wpList P ops Q (⟨dst,.call {callee:=.builtin .len,args:= #[x],argTypes:= #[t]},ty,pos,af,none⟩::rest) a w:=by
 refine au ?_ k;unfold fP execOp;simp only[resolve,invoke,builtin,Sem.run_bind,Sem.run_pure,Result.andThen_ok,List.map_toArray,List.map_cons,List.map_nil,hx,run_len_chan t _ ht hc];rfl
theorem uH{x:Operand}{t e:TypeId}{dir:ChanDir}{c cap s r:Nat}{buf:Array Value}{closed:Bool}(ht:P.underlying t=some (.chan dir e))(hx:a.eval x=.chan (some c))(hc:w.heap[c]? =some (.chan cap buf closed s r false))
  (k:wpList P ops Q rest (a.put dst (.int .i64 cap)) w):wpList P ops Q (⟨dst,.call {callee:=.builtin .cap,args:= #[x],argTypes:= #[t]},ty,pos,af,none⟩::rest) a w:=by
 refine au ?_ k;unfold fP execOp;simp only[resolve,invoke,builtin,Sem.run_bind,Sem.run_pure,Result.andThen_ok,List.map_toArray,List.map_cons,List.map_nil,hx,run_cap_chan t _ ht hc];rfl
end
theorem Py(w0:World)(pb c cap:Nat)(a0:Option Addr)(c0:Nat)(EK:List UInt8)(qs:List (Option Addr×Nat×List UInt8))(hs:(ma pb c cap ((a0,c0,EK)::qs)).sat w0)(hn:(ma pb c cap ((a0,c0,EK)::qs)).own.Nodup):
  Calls prog 111 #[.pointer (some ⟨pb,0,none⟩)] w0 λe w'=>e=.returned (.tuple #[.slice a0 EK.length c0,.bool true])∧Inv (ma pb c cap ((a0,c0,EK)::qs)).own w0 w' [bf 5 1 (.slice a0 EK.length c0) EK.length (EK.map bv),ma pb c cap qs]:=
 Vh w0 pb c cap (a0,c0,EK) qs hs hn
theorem ZW(w0:World)(pb c cap:Nat)(a0:Option Addr)(c0:Nat)(EK:List UInt8)(qs:List (Option Addr×Nat×List UInt8))(hs:(ma pb c cap ((a0,c0,EK)::qs)).sat w0)(hn:(ma pb c cap ((a0,c0,EK)::qs)).own.Nodup)(hcap:qs.length<cap)(hl:EK.length<=100000):
  Calls prog 74 #[.pointer (some ⟨pb,0,none⟩)] w0 λe w'=>e=.returned (.bool true)∧∃a1 c1,Inv (ma pb c cap ((a0,c0,EK)::qs)).own w0 w' [ma pb c cap (qs++[(a1,c1,EK)])]:=by
 have hI:=yT hs hn;clear hs hn;go_enter func74,ntmps74;go_wp2_with(first|refine YL ?_|go_at_call 111;(with_reducible refine(Py _ pb c cap a0 c0 EK qs (hI.sat _ aA) (hI.nd aA)).mono ?_);rintro e w1 ⟨rfl,hJ⟩;replace hI:=hI.Ml hJ aR.here;clear hJ|go_at_call 110;(with_reducible refine(Hz _ pb c cap qs (hI.sat _ aM) (hI.nd aM) OM _ _ EK (hI.rd aA) hl).mono ?_);rintro e w1 ⟨rfl,a1,c1,hJ⟩;replace hI:=hI.on hJ (aR.there aR.here);clear hJ);go_ret;exact⟨rfl,a1,c1,hI.tl⟩
theorem Dg(w0:World)(pb c cap:Nat)(qs:List (Option Addr×Nat×List UInt8))(hs:(ma pb c cap qs).sat w0):
  Calls prog 72 #[.pointer (some ⟨pb,0,none⟩)] w0 λe w'=>e=.returned (.int .i64 qs.length)∧w'=w0:=by
 obtain⟨h1,⟨s,r,hch⟩,h3⟩:=hs;have hcell:w0.cell? ⟨pb,0,none⟩=some (.chan (some c)):=by simp[World.cell?,h1]
 have hsz:((qs.map qv).toArray.size:Int)=qs.length:=by simp
 go_enter func72,ntmps72;go_wp2_with(with_reducible refine Bi underlying181 RF hch ?_);go_ret;exact⟨by simp,rfl⟩
end A
namespace A
open Go.RowKit Go.Conc
def chn(c cap:Nat):aG:=⟨[c],λw=>∃s r,w.heap[c]? =some (.chan cap #[] false s r false),λw w' h hs=>by
 obtain⟨s,r,h1⟩:=hs;exact⟨s,r,by rw[h c SI];exact h1⟩⟩
theorem Dh{w0 w:World}{pb c cap:Nat}(h:Inv [] w0 w [blk pb 183 [.chan (some c)],chn c cap]):Inv [] w0 w [ma pb c cap []]:=by
 have e:owned [ma pb c cap []]=owned [blk pb 183 [.chan (some c)],chn c cap]:=by simp[owned,ma,blk,chn]
 refine⟨h.os,h.tape,h.output,h.size,h.old,λx hx=>?_,by rw[e];exact h.mine,by rw[e];exact h.apart⟩;obtain rfl:=List.mem_singleton.1 hx;exact⟨h.sat (blk pb 183 [.chan (some c)]) SI,h.sat (chn c cap) SI,by simp⟩
theorem ah3:(prog.info? 63).map (·.bytes)=some 24:=by kernel_rfl
theorem adh:(prog.info? 183).map (·.zero)=some (some (.agg #[.chan none])):=by kernel_rfl
theorem agd:prog.underlying 183=some (.struct (prog.fieldsOf 183)):=by kernel_rfl
theorem ah4:(prog.fieldsOf 183).toList.map (placeOf prog)=[(0,1)]:=by kernel_rfl
theorem ah5:(prog.fieldsOf 183).toList.all (λf=>(prog.info? f.type).isSome)=true:=by kernel_rfl
theorem ZX(c:Nat)(w:World):(Instr.build 183 #[(0,.chan (some c))]).run prog w=.ok (.agg #[.chan (some c)]) w:=by
 obtain⟨inf,zM,hz'⟩:=Option.map_eq_some_iff.1 adh;have hzv:(zeroValue 183).run prog w=.ok (.agg #[.chan none]) w:=by simp[zeroValue,typeInfo,zM,hz']
 have hr:=l6 (P:=prog) (prog.fieldsOf 183).toList (List.all_eq_true.1 ah5) w;rw[ah4]at hr;simp only[Instr.build,Sem.run_bind,hzv,Result.andThen_ok,run_underlying agd];rw[<-Array.toArray_toList (xs:=prog.fieldsOf 183),List.mapM_toArray];simp only[Sem.run_map,hr];simp[Instr.fill,Value.cells]
section
variable {ops:Array Oper}{Q:Exit->Act->World->Prop}{a:Act}{rest:List Oper}{T:List Nat}{w0 w:World}{m:List aG}{dst:Option Tmp}{ty:TypeId}{pos:String}{af:Array Edge}
theorem qw{x:Operand}{c:Nat}(hx:a.eval x=.chan (some c))(k:wpList prog ops Q rest (a.put dst (.agg #[.chan (some c)])) w):wpList prog ops Q (⟨dst,.build 183 #[(0,x)],ty,pos,af,none⟩::rest) a w:=by
 refine au ?_ k;unfold fP execOp;simp only[List.map_toArray,List.map_cons,List.map_nil,hx,Sem.run_bind,ZX,Result.andThen_ok];rfl
theorem o8{x:Operand}{n:Nat}(hI:Inv T w0 w m)(hx:a.eval x=.int .i64 n)(hn:n<=64)
  (k:∀c w',Inv T w0 w' (chn c n::m)->wpList prog ops Q rest (a.put dst (.chan (some c))) w'):wpList prog ops Q (⟨dst,.makeChan 181 x,ty,pos,af,none⟩::rest) a w:=
 wpList_plain rfl λK hK=>by
  obtain⟨inf,zM,hb⟩:=Option.map_eq_some_iff.1 ah3;have hr:=run_makeChan (P:=prog) (w:=w) underlying181 zM .i64 n OM (by rw[hb];omega);unfold Oper.wp execOp;simp only[hx,Sem.run_bind,hr,Result.andThen_ok,Sem.run_pure];refine hK _ _ (k w.heap.size (w.alloc (.chan n #[] false 0 0 false)) ?_);have hsz:(w.alloc (.chan n #[] false 0 0 false)).heap.size=w.heap.size+1:=by show(w.heap.push _).size=_;simp
  exact hI.new ⟨rfl,rfl,rfl,by omega,λj hj _=>(MapKept.heap_alloc w _).2 j hj⟩ ⟨0,0,(MapKept.heap_alloc w _).1⟩ (by intro i hi;simp[chn]at hi;omega) (by simp[chn])
end
def JK(n:Int):Nat:=if n<1 then 1 else if 64<n then 64 else n.toNat
theorem adi(w0:World)(n:Int):Calls prog 62 #[.int .i64 n] w0 λe w'=>∃pb c,e=.returned (.pointer (some ⟨pb,0,none⟩))∧Inv [] w0 w' [ma pb c (JK n) []]:=by
 have hI:=Inv.start w0;by_cases h1:n<1
 ·have e:JK n=1:=by unfold JK;rw[if_pos h1]
  rw[e];go_enter func62,ntmps62;go_wp2_with(first|(with_reducible refine o8 (n:=1) hI RF OM ?_);intro c w hI|with_reducible refine qw RF ?_|(with_reducible refine bN (cs:=[.chan (some c)]) hI RF ?_);intro pb w hI);go_ret;exact⟨pb,c,rfl,Dh hI⟩
 ·by_cases h2:64<n
  ·have e:JK n=64:=by unfold JK;rw[if_neg h1,if_pos h2]
   rw[e];go_enter func62,ntmps62;go_wp2_with(first|(with_reducible refine o8 (n:=64) hI RF OM ?_);intro c w hI|with_reducible refine qw RF ?_|(with_reducible refine bN (cs:=[.chan (some c)]) hI RF ?_);intro pb w hI);go_ret;exact⟨pb,rfl,c,Dh hI⟩
  ·obtain⟨k,rfl⟩:∃k:Nat,n=k:=⟨n.toNat,by omega⟩
   have e:JK (k:Int)=k:=by unfold JK;rw[if_neg h1,if_neg h2];simp
   rw[e];go_enter func62,ntmps62;go_wp2_with(first|(with_reducible refine o8 hI RF OM ?_);intro c w hI|with_reducible refine qw RF ?_|(with_reducible refine bN (cs:=[.chan (some c)]) hI RF ?_);intro pb w hI);go_ret;exact⟨pb,rfl,c,Dh hI⟩
theorem ZY(w0:World)(pb c cap:Nat)(qs:List (Option Addr×Nat×List UInt8))(hs:(ma pb c cap qs).sat w0)(hfull:cap<=qs.length)(a:Option Addr)(cp:Nat)(bs:List UInt8)(hr:Rd w0 a (bs.map bv))(hl:bs.length<=100000):
  Calls prog 110 #[.pointer (some ⟨pb,0,none⟩),.slice a bs.length cp] w0 λe w'=>e=.returned (.bool false)∧Below w0.heap.size w0 w':=by
 obtain⟨h1,⟨s,r,h2⟩,h3⟩:=hs;exact Nb w0 pb c cap s r (qs.map qv) h1 h2 (by simpa using hfull) a cp bs hr hl
end A
namespace A
open Go.RowKit Go.Conc
theorem Vi(w0:World)(pb c cap:Nat)(qs:List (Option Addr×Nat×List UInt8))(hs:(ma pb c cap qs).sat w0)(h0:qs.length=0∨(qs.length≠0∧qs.length=cap)):
  Calls prog 73 #[.pointer (some ⟨pb,0,none⟩)] w0 λe w'=>e=.returned (.bool false)∧w'=w0:=by
 obtain⟨h1,⟨s,r,hch⟩,h3⟩:=id hs;have hcell:w0.cell? ⟨pb,0,none⟩=some (.chan (some c)):=by simp[World.cell?,h1]
 rcases h0 with h0| ⟨h0,h2⟩
 ·have e1:((qs.length:Int)==0)=true:=by simp[h0]
  go_enter func73,ntmps73;go_wp2_with(go_at_call 72;refine KR (Dg _ pb c cap qs hs) ?_);go_ret;exact⟨rfl,rfl⟩
 ·have e1:((qs.length:Int)==0)=false:=by simp;exact λh=>h0 (by rw[h];rfl)
  have e2:((qs.length:Int)==(cap:Int))=true:=by simp[h2]
  clear h0 h2;go_enter func73,ntmps73;go_wp2_with(first|refine YL ?_|go_at_call 72;refine KR (Dg _ pb c cap qs hs) ?_|with_reducible refine uH underlying181 RF hch ?_);go_ret;exact⟨rfl,rfl⟩
def ah6(w0:World)(pb c cap:Nat)(qs:List (Option Addr×Nat×List UInt8))(j:Nat)(w:World):Prop:=
 ∃s r,Step [c] w0 w∧w.heap[c]? =some (.chan cap ((qs.drop j++qs.take j).map qv).toArray false s r false)∧w.cell? ⟨pb,0,none⟩=some (.chan (some c))
def ah7(w0:World)(pb c cap:Nat)(qs:List (Option Addr×Nat×List UInt8))(q0:Option Addr×Nat×List UInt8)(a:Act)(w:World):Prop:=
 ∃(j:Nat) (f4 s5 s6 s22 s23 s24 s25 s26 s27 s28 s29 s30 s31 s32 s33 Yu s35 s36 s37:Value),j<=qs.length∧a=(⟨#[.pointer (some ⟨pb,0,none⟩),undef,.bool false,.int .i64 qs.length,f4,s5,s6,.pointer (some ⟨pb,0,none⟩),.int .i64 qs.length,.int .i64 qs.length,.bool false,.bool false,.int .i64 qs.length,.pointer (some ⟨pb,0,none⟩),.pointer (some ⟨pb,0,none⟩),.pointer (some ⟨pb,0,none⟩),.chan (some c),.int .i64 cap,.bool false,.bool false,.int .i64 qs.length,.int .i64 (j:Nat),s22,s23,s24,s25,s26,s27,s28,s29,s30,s31,s32,s33,Yu,s35,s36,s37,undef,undef,undef],[]⟩:Act)∧f4=(if j=0 then .slice none 0 0 else qv q0)∧ah6 w0 pb c cap qs j w
theorem ah8(x:Value)(l:List Value):(x::l).toArray.extract 1=l.toArray:=by simp
theorem age(l:List (Option Addr×Nat×List UInt8))(q:Option Addr×Nat×List UInt8):(l.map qv).toArray.push (qv q)=((l++[q]).map qv).toArray:=by simp
theorem _root_.Go.Proofs.YtdakkaapokhnnaaGreatDoor.Inv.after{T:List Nat}{w0 w w':World}{m:List aG}(h:Inv T w w' m)(hs:Step T w0 w):Inv T w0 w' m:=
 ⟨h.os.trans hs.os,h.tape.trans hs.tape,h.output.trans hs.output,Nat.le_trans hs.size h.size,λk hk Mc=>(h.old k (Nat.lt_of_lt_of_le hk hs.size) Mc).trans (hs.same k hk Mc),h.sat,λk hk=>by
  have:=h.mine k hk;refine⟨?_,this.2⟩;rcases this.1 with h1|h1
  ·exact .inl (Nat.le_trans hs.size h1)
  ·exact .inr h1,h.apart⟩
theorem Rn{w:World}{pb c pb':Nat}{cap s r:Nat}{buf:Array Value}(h:w.cell? ⟨pb,0,none⟩=some (.chan (some c)))(hc:w.heap[pb']? =some (.chan cap buf false s r false)):pb≠pb':=by
 rintro rfl;simp[World.cell?,hc]at h
theorem Di{w:World}{pb c cap s r:Nat}{buf:Array Value}(h:w.cell? ⟨pb,0,none⟩=some (.chan (some c)))(hne:pb≠c):(w.setChan c cap buf false s r false).cell? ⟨pb,0,none⟩=some (.chan (some c)):=by
 have:(w.setChan c cap buf false s r false).heap[pb]? =w.heap[pb]? :=by
  simp only[World.setChan];rw[Array.getElem?_setIfInBounds_ne (Ne.symm hne)]
 simp only[World.cell?,this]at h|-;exact h
theorem Nc(w0:World)(pb c cap:Nat)(q0:Option Addr×Nat×List UInt8)(qs':List (Option Addr×Nat×List UInt8))(hs:(ma pb c cap (q0::qs')).sat w0)(hn:(ma pb c cap (q0::qs')).own.Nodup)(h2:(q0::qs').length <cap)(hcap:cap<=64)(hl:q0.2.2.length<=100000):
  Calls prog 73 #[.pointer (some ⟨pb,0,none⟩)] w0 λe w'=>e=.returned (.bool true)∧∃a1 c1,Inv (ma pb c cap (q0::qs')).own w0 w' [ma pb c cap ((q0::qs')++[(a1,c1,q0.2.2)])]:=by
 obtain⟨qs,hqs⟩:=EQ (q0::qs');have hq0:qs[0]? =some q0:=by rw[<-hqs];rfl
 rw[hqs]at hs hn h2|-;have h0:qs.length≠0:=by rw[<-hqs];simp
 clear hqs;obtain⟨a0,c0,EK⟩:=q0;have hI0:=yT hs hn;obtain⟨h1,⟨s,r,hch⟩,h3⟩:=id hs;have hcell:w0.cell? ⟨pb,0,none⟩=some (.chan (some c)):=by simp[World.cell?,h1]
 have hne:=Rn hcell hch;have e1:((qs.length:Int)==0)=false:=by simp;exact λh=>h0 (by rw[h];rfl)
 have e2:((qs.length:Int)==(cap:Int))=false:=by simp;omega
 refine pO func73 rfl ?_;simp only[ntmps73,List.size_toArray,List.length_cons,List.length_nil,Nat.reduceAdd,Nat.reduceSub,Array.replicate_succ,Array.replicate_zero,List.push_toArray,List.append_toArray,List.nil_append,List.cons_append];refine lu.seq (lu.of ?_)
 go_wp2
 refine lu.seq (lu.of ?_);go_wp2_with(go_at_call 72;refine KR (Dg _ pb c cap qs hs) ?_);refine lu.seq (lu.of ?_);go_wp2_with(first|refine YL ?_|with_reducible refine uH underlying181 RF hch ?_);refine lu.seq (lu.of ?_)
 go_wp2
 refine lu.seq (lu.seq (lu.of ?_))
 go_wp2
 refine lu.block ?_;refine lu.loop (ah7 w0 pb c cap qs (a0,c0,EK)) (λa _=>qs.length- (intOf (a.tmps.getD 21 undef)).toNat) ?_ ?_
 ·exact⟨0,_,_,_,_,_,_,_,_,_,_,_,_,_,_,_,_,_,_,_,by omega,rfl,by rw[if_pos rfl],s,r,Step.refl _ _,by simpa using hch,hcell⟩
 ·rintro a w ⟨j,f4,s5,s6,s22,s23,s24,s25,s26,s27,s28,s29,s30,s31,s32,s33,Yu,s35,s36,s37,hj,rfl,hf,sj,rj,hst,hcj,hcl⟩
  replace hf:=HD hf;refine lu.seq (lu.of ?_);have ajd:(j:Int) <64:=by omega
  by_cases hlj:j<qs.length
  ·go_wp2
   refine lu.seq (lu.of ?_)
   go_wp2
   refine lu.seq (lu.block ?_);refine lu.seq (lu.of ?_)
   go_wp2
   refine lu.seq (lu.region ?_);refine kJ.adg (r:=[4,5]) 4 ?_;simp only[List.take_succ_cons,List.take_zero]
   go_wp2
   have hz:=ZV w;have hd:qs.drop j=qs[j]::qs.drop (j+1):=List.drop_eq_getElem_cons hlj;have adj:w.heap[c]? =some (.chan cap (qv qs[j]::(qs.drop (j+1)++qs.take j).map qv).toArray false sj rj false):=by rw[hcj,hd];rfl
   clear hcj;refine kJ.comm (i:=4) (rest:=List.range' 5 1) rfl rfl (cases:= #[rcase c (.slice none 0 0)]) (blocking:=true) (shape:=.recv false) (by simp[execOp,rcase,Act.eval,Sem.run_bind,run_underlying underlying181,hz,Result.andThen]) (λfr cs es h=>step_lone_recv_buf false h adj SI) ?_;refine kJ.list 5 _ rfl ?_;have q1:got false ((qv qs[j]::(qs.drop (j+1)++qs.take j).map qv).toArray.getD 0 undef) true=qv qs[j]:=by simp[got]
   have q2:(qv qs[j]::(qs.drop (j+1)++qs.take j).map qv).toArray.extract 1=((qs.drop (j+1)++qs.take j).map qv).toArray:=ah8 _ _;rw[q1,q2];have hlt:=(Array.getElem?_eq_some_iff.1 adj).1;have st1:=nA w c cap ((qs.drop (j+1)++qs.take j).map qv).toArray false sj (rj+1) false;have hc1:=heap_setChan w c cap ((qs.drop (j+1)++qs.take j).map qv).toArray false sj (rj+1) false hlt;have ZZ:=Di (cap:=cap) (s:=sj) (r:=rj+1) (buf:=((qs.drop (j+1)++qs.take j).map qv).toArray) hcl hne;generalize w.setChan c cap ((qs.drop (j+1)++qs.take j).map qv).toArray false sj (rj+1) false=w1 at*;have QB:=hst.trans st1;clear hst st1 adj hcl hlt hz q1 q2
   (simp only[List.drop_succ_cons,List.drop_zero,Act.put,List.setIfInBounds_toArray,QG,QS,goInt])
   go_wp2
   refine lu.seq (lu.of ?_);by_cases hj0:j=0
   ·subst hj0
    have hjq:qv qs[0]=qv (a0,c0,EK):=by
     have:=List.getElem?_eq_getElem hlj;rw[hq0]at this;rw[<-Option.some.inj this]
    replace hjq:=HD hjq
    go_wp2
    refine lu.region ?_;refine kJ.adg (r:=[5]) 5 ?_;simp only[List.take_succ_cons,List.take_zero]
    go_wp2
    refine kJ.comm (i:=5) (rest:=List.range' 6 0) rfl rfl (cases:= #[scase c (qv qs[0]) (.tuple #[])]) (blocking:=true) (shape:=.send) (by simp[execOp,scase,Act.eval]) (λfr cs es h=>step_lone_send_room h hc1 (by simp;omega)) ?_;refine kJ.list 6 _ rfl ?_;have q3:((qs.drop (0+1)++qs.take 0).map qv).toArray.push (qv qs[0])=((qs.drop (0+1)++qs.take (0+1)).map qv).toArray:=by
     rw[age,List.append_assoc,<-List.take_succ_eq_append_getElem hlj]
    rw[q3];have hlt1:=(Array.getElem?_eq_some_iff.1 hc1).1;have st2:=nA w1 c cap ((qs.drop (0+1)++qs.take (0+1)).map qv).toArray false (sj+1) (rj+1) false;have hc2:=heap_setChan w1 c cap ((qs.drop (0+1)++qs.take (0+1)).map qv).toArray false (sj+1) (rj+1) false hlt1;have adk:=Di (cap:=cap) (s:=sj+1) (r:=rj+1) (buf:=((qs.drop (0+1)++qs.take (0+1)).map qv).toArray) ZZ hne;generalize w1.setChan c cap ((qs.drop (0+1)++qs.take (0+1)).map qv).toArray false (sj+1) (rj+1) false=w2 at*;have Rf:=QB.trans st2;clear st2 QB hc1 ZZ hlt1 q3
    (simp only[List.drop_succ_cons,List.drop_zero,Act.put,List.setIfInBounds_toArray,QG,QS,goInt])
    go_wp2
    refine lu.of ?_
    go_wp2
    refine⟨⟨0+1,_,_,_,_,_,_,_,_,_,_,_,_,_,_,_,_,_,_,_,by omega,(by rfl),?_,sj+1,rj+1,Rf,hc2,adk⟩,?_⟩
    ·rw[if_neg OM];exact hjq.out
    ·simp[intOf];omega
   ·have hb0:((j:Int)==0)=false:=by simp;omega
    have hf:=hf.out;rw[if_neg hj0]at hf
    go_wp2
    refine lu.region ?_;refine kJ.adg (r:=[5]) 5 ?_;simp only[List.take_succ_cons,List.take_zero]
    go_wp2
    refine kJ.comm (i:=5) (rest:=List.range' 6 0) rfl rfl (cases:= #[scase c (qv qs[j]) (.tuple #[])]) (blocking:=true) (shape:=.send) (by simp[execOp,scase,Act.eval]) (λfr cs es h=>step_lone_send_room h hc1 (by simp;omega)) ?_;refine kJ.list 6 _ rfl ?_;have q3:((qs.drop (j+1)++qs.take j).map qv).toArray.push (qv qs[j])=((qs.drop (j+1)++qs.take (j+1)).map qv).toArray:=by
     rw[age,List.append_assoc,<-List.take_succ_eq_append_getElem hlj]
    rw[q3];have hlt1:=(Array.getElem?_eq_some_iff.1 hc1).1;have st2:=nA w1 c cap ((qs.drop (j+1)++qs.take (j+1)).map qv).toArray false (sj+1) (rj+1) false;have hc2:=heap_setChan w1 c cap ((qs.drop (j+1)++qs.take (j+1)).map qv).toArray false (sj+1) (rj+1) false hlt1;have adk:=Di (cap:=cap) (s:=sj+1) (r:=rj+1) (buf:=((qs.drop (j+1)++qs.take (j+1)).map qv).toArray) ZZ hne;generalize w1.setChan c cap ((qs.drop (j+1)++qs.take (j+1)).map qv).toArray false (sj+1) (rj+1) false=w2 at*;have Rf:=QB.trans st2;clear st2 QB hc1 ZZ hlt1 q3
    (simp only[List.drop_succ_cons,List.drop_zero,Act.put,List.setIfInBounds_toArray,QG,QS,goInt])
    go_wp2
    refine lu.of ?_
    go_wp2
    refine⟨⟨j+1,_,_,_,_,_,_,_,_,_,_,_,_,_,_,_,_,_,_,_,by omega,(by rfl),?_,sj+1,rj+1,Rf,hc2,adk⟩,?_⟩
    ·rw[if_neg OM]
    ·simp[intOf];omega
  ·obtain rfl:j=qs.length:=by omega
   go_wp2
   refine lu.seq (lu.of ?_)
   go_wp2
   have hf:=hf.out;rw[if_neg h0]at hf;subst hf;have ES:(ma pb c cap qs).sat w:=by
    refine⟨?_,⟨sj,rj,by rw[hcj];simp⟩,λx hx=>?_⟩
    ·rw[hst.same pb (hI0.mine pb (by simp[owned,ma])).2 (by simpa using hne)];exact h1
    ·refine x.loc w0 w (λk hk=>hst.same k (hI0.mine k (by simp only[owned,List.flatMap_cons,List.flatMap_nil,List.append_nil];exact List.mem_cons_of_mem _ (List.mem_cons_of_mem _ (dE.2 ⟨x,hx,hk⟩)))).2 ?_) (h3 x hx)
     have hnd:=hn;simp only[ma,List.nodup_cons]at hnd;simp only[List.mem_singleton];rintro rfl;exact hnd.2.1 (dE.2 ⟨x,hx,hk⟩)
   have hmem:qr (a0,c0,EK)∈qs.map qr:=List.mem_map.2 ⟨_,List.mem_of_getElem? hq0,rfl⟩;have hrd:Rd w a0 (EK.map bv):=Cg (ES.2.2 _ hmem);have ah9:Step (ma pb c cap qs).own w0 w:=hst.mono (λk hk=>by obtain rfl:=List.mem_singleton.1 hk;simp[ma]);simp only[qv];refine lu.of ?_;go_wp2_with(go_at_call 110;refine(Hz _ pb c cap qs ES hn OM a0 c0 EK hrd hl).mono ?_;rintro e w1 ⟨rfl,a1,c1,hJ⟩);go_ret;exact⟨rfl,a1,c1,hJ.after ah9⟩
end A
namespace A
abbrev QE:=Option Addr×Nat×List UInt8
def bu:List Nat:=[1,2,3,4,5,7,8,9,10,11,13,14,15,16,17,19,20,21,22,23]
theorem Nf:bu.Nodup:=by decide
theorem nC{i:Nat}(h:i<25)(h6:i%6≠0):i∈bu:=by
 have:∀i<25,i%6≠0->i∈bu:=by decide
 exact this i h h6
theorem Z0{i:Nat}(h:i∈bu):i<25∧i%6≠0:=by
 have:∀i∈bu,i<25∧i%6≠0:=by decide
 exact this i h
def gV(n:Nat):List Nat:=bu.filter (· <n)
theorem JL:gV 0=[]:=by decide
theorem Ro:gV 25=bu:=by decide
theorem AA{j:Nat}(h:j<25)(h6:j%6≠0):gV (j+1)=gV j++[j]:=by
 have:∀j<25,j%6≠0->gV (j+1)=gV j++[j]:=by decide
 exact this j h h6
theorem AB{j:Nat}(h:j<25)(h6:j%6=0):gV (j+1)=gV j:=by
 have:∀j<25,j%6=0->gV (j+1)=gV j:=by decide
 exact this j h h6
theorem FO{j i:Nat}(h:i∈gV j):i<j:=by
 simpa using(List.mem_filter.1 h).2
def f_(pb:Nat->Nat)(n i:Nat):Value:=if i%6=0∨n<=i then .pointer none else .pointer (some ⟨pb i,0,none⟩)
def bS(pb:Nat->Nat)(n:Nat):List Value:=(List.range 25).map (f_ pb n)
theorem kK(pb:Nat->Nat)(n:Nat):(bS pb n).length=25:=by simp[bS]
theorem oK(pb:Nat->Nat)(n:Nat){i:Nat}(h:i<25):(bS pb n)[i]? =some (f_ pb n i):=by
 simp[bS,h]
theorem HV(pb:Nat->Nat){j:Nat}(h6:j%6=0):bS pb (j+1)=bS pb j:=by
 unfold bS;refine List.map_congr_left λi _=>?_
 unfold f_;by_cases hi:i=j
 ·subst hi;simp[h6]
 ·have:(j+1<=i)↔(j<=i):=by omega
  simp only[this]
theorem JM(pb:Nat->Nat){j:Nat}(h:j<25)(h6:j%6≠0)(b:Nat):splice (bS pb j) j [.pointer (some ⟨b,0,none⟩)]=bS (gL pb j b) (j+1):=by
 have hs:splice (bS pb j) j [.pointer (some ⟨b,0,none⟩)]=(bS pb j).set j (.pointer (some ⟨b,0,none⟩)):=by
  rw[List.set_eq_take_append_cons_drop,if_pos (by rw[kK];exact h)];simp[splice]
 rw[hs];refine List.ext_getElem? λi=>?_
 rw[List.getElem?_set];by_cases hi:j=i
 ·subst hi
  rw[if_pos rfl,if_pos (by rw[kK];exact h),oK _ _ h];simp[f_,h6,gL]
 ·rw[if_neg hi]
  by_cases hi2:i<25
  ·rw[oK _ _ hi2,oK _ _ hi2]
   have:(j+1<=i)↔(j<=i):=by omega
   simp only[f_,this,gL,if_neg (λh=>hi h.symm:¬i=j)]
  ·rw[List.getElem?_eq_none (by rw[kK];omega),List.getElem?_eq_none (by rw[kK];omega)]
def pQ(pb c:Nat->Nat)(q:Nat->List QE)(i:Nat):aG:=ma (pb i) (c i) 8 (q i)
def jJ(e p:Nat)(pb c:Nat->Nat)(q:Nat->List QE):aG:=two (blk p e (bS pb 25)) (fQ bu (pQ pb c q))
def pF(q:Nat->List QE)(n:Nat):Nat:=((gV n).map λi=>(q i).length).sum
theorem Pz(q:Nat->List QE):pF q 0=0:=by simp[pF,JL]
theorem Dj(q:Nat->List QE){j:Nat}(h:j<25)(h6:j%6=0):pF q (j+1)=pF q j:=by rw[pF,AB h h6];rfl
theorem Dk(q:Nat->List QE){j:Nat}(h:j<25)(h6:j%6≠0):pF q (j+1)=pF q j+(q j).length:=by rw[pF,AA h h6];simp[pF]
theorem Z4(pb c:Nat->Nat)(q:Nat->List QE)(i:Nat)(v:List QE):ma (pb i) (c i) 8 v=pQ pb c (gL q i v) i:=by unfold pQ;rw[bJ]
theorem Z5(pb c:Nat->Nat)(q:Nat->List QE)(i:Nat)(v:List QE):∀j∈bu,j≠i->pQ pb c (gL q i v) j=pQ pb c q j:=λj _ h=>by unfold pQ;rw[bZ _ _ h]
end A
namespace A
open Go.RowKit Go.Conc
theorem PD:jg prog 128:=⟨by kernel_rfl,by kernel_rfl⟩
theorem Dl(w0:World)(f:Nat)(hf:f<5):Calls prog 109 #[.int .i64 f] w0 λe w'=>e=.returned (.bool true)∧w'=w0:=by
 have h1:(0:Int)<=(f:Int):=by omega
 have h2:(f:Int) <5:=by omega
 go_enter func109,ntmps109;go_wp2_with fail;go_ret;exact⟨rfl,rfl⟩
theorem PE(w0:World)(z:Int)(hz:¬(0<=z∧z<5)):Calls prog 109 #[.int .i64 z] w0 λe w'=>e=.returned (.bool false)∧w'=w0:=by
 by_cases h1:0<=z
 ·have h2:decide (z<5)=false:=by simp;omega
  have h3:¬z<5:=by omega
  clear hz;go_enter func109,ntmps109;go_wp2_with(refine YL ?_);go_ret;exact⟨by simp[h3],rfl⟩
 ·have h3:decide (0<=z)=false:=by simp;omega
  clear hz;go_enter func109,ntmps109;go_wp2_with(fail);go_ret;exact⟨by simp[h1],rfl⟩
theorem adl(w0:World)(v:Value)(f t:Int)(h:¬(0<=f∧f<5∧0<=t∧t<5)):Calls prog 71 #[v,.int .i64 f,.int .i64 t] w0 λe w'=>e=.returned (.pointer none)∧w'=w0:=by
 by_cases hf:0<=f∧f<5
 ·have ht:¬(0<=t∧t<5):=λht=>h ⟨hf.1,hf.2,ht.1,ht.2⟩
  obtain⟨f,rfl⟩:∃k:Nat,f=k:=⟨f.toNat,by omega⟩;have hf0:f<5:=by omega
  clear h hf;go_enter func71,ntmps71;go_wp2_with(first|refine YL ?_|go_at_call 109;refine KR (PE _ _ ht) ?_|go_at_call 109;refine KR (Dl _ f hf0) ?_);go_ret;exact⟨rfl,rfl⟩
 ·clear h
  go_enter func71,ntmps71;go_wp2_with(go_at_call 109;refine KR (PE _ _ hf) ?_);go_ret;exact⟨rfl,rfl⟩
theorem uf{T:List Nat}{w00:World}{m:List aG}(w0:World)(p:Nat)(pb:Nat->Nat)(f t:Nat)(hf0:f<5)(ht0:t<5)(hI:Inv T w00 w0 (blk p 132 (bS pb 25)::m)):
  Calls prog 71 #[.pointer (some ⟨p,0,none⟩),.int .i64 f,.int .i64 t] w0 λe w'=>e=.returned (f_ pb 25 (f*5+t))∧w'=w0:=by
 have hcell:(bS pb 25)[f*5+t]? =some (f_ pb 25 (f*5+t)):=oK _ _ OM;generalize f_ pb 25 (f*5+t)=v at hcell;go_enter func71,ntmps71;go_wp2_with(first|refine YL ?_|go_at_call 109;refine KR (Dl _ t ht0) ?_|go_at_call 109;refine KR (Dl _ f hf0) ?_|with_reducible refine aS hI RF aA PD hcell ?_);go_ret;exact⟨rfl,rfl⟩
end A
namespace A
open Go.RowKit Go.Conc
section
variable {T:List Nat}{w0 w w':World}{m m':List aG}{p:Nat}{pb c:Nat->Nat}{q:Nat->List QE}{i:Nat}{v:List QE}
theorem vE(h:Inv T w0 w (jJ 132 p pb c q::m)):Inv T w0 w (blk p 132 (bS pb 25)::fQ bu (pQ pb c q)::m):=h.dz
theorem Vj(h:Inv T w0 w (blk p 132 (bS pb 25)::fQ bu (pQ pb c q)::m)):Inv T w0 w (jJ 132 p pb c q::m):=h.dO
theorem Ng(h:Inv T w0 w (jJ 132 p pb c q::m))(hi:i∈bu):Inv T w0 w (ma (pb i) (c i) 8 (q i)::blk p 132 (bS pb 25)::fQ (bu.erase i) (pQ pb c q)::m):=
 (vE h).pull hi (aR.there aR.here)
theorem nin(h:Inv T w0 w (ma (pb i) (c i) 8 v::blk p 132 (bS pb 25)::fQ (bu.erase i) (pQ pb c q)::m))(hi:i∈bu):Inv T w0 w (jJ 132 p pb c (gL q i v)::m):=
 Vj (h.push Nf hi (Z4 pb c q i v) (Z5 pb c q i v) (aR.there aR.here))
end
theorem kL(pb:Nat->Nat){i:Nat}(hi:i∈bu):f_ pb 25 i=.pointer (some ⟨pb i,0,none⟩):=by
 obtain⟨h1,h2⟩:=Z0 hi;unfold f_;rw[if_neg OM]
theorem Vk(w0:World)(p:Nat)(pb c:Nat->Nat)(q:Nat->List QE)(f t i:Nat)(hf0:f<5)(ht0:t<5)(hi:i=f*5+t)(hne:f≠t)(h:Inv (jJ 132 p pb c q).own w0 w0 [jJ 132 p pb c q])
  (a:Option Addr) (cp:Nat) (bs:List UInt8) (hr:Rd w0 a (bs.map bv)) (hl:bs.length<=100000) (hroom:(q i).length <8):
  Calls prog 211 #[.pointer (some ⟨p,0,none⟩),.int .i64 f,.int .i64 t,.slice a bs.length cp] w0 λe w'=>e=.returned (.bool true)∧∃a1 c1,Inv (jJ 132 p pb c q).own w0 w' [jJ 132 p pb c (gL q i (q i++[(a1,c1,bs)]))]:=by
 have uO:i∈bu:=nC OM OM;have hcv:f_ pb 25 (f*5+t)=.pointer (some ⟨pb i,0,none⟩):=by rw[<-hi];exact kL pb uO
 clear hi;have hI:=vE h;go_enter func211,ntmps211;go_upto_region 2 with(go_at_call 71;refine KR (uf _ p pb f t hf0 ht0 hI) ?_;rw[hcv])
 replace hI:=Ng h uO;clear h hcv;go_wp2_with(first|refine YL ?_|go_at_call 110;with_reducible refine(Hz _ (pb i) (c i) 8 (q i) (hI.sat _ aA) (hI.nd aA) hroom _ _ bs hr hl).mono ?_;rintro e w1 ⟨rfl,a1,c1,hJ⟩;replace hI:=hI.on hJ aR.here;clear hJ);go_ret;exact⟨rfl,a1,c1,nin hI uO⟩
theorem Rp(w0:World)(p:Nat)(pb c:Nat->Nat)(q:Nat->List QE)(f t i:Nat)(hf0:f<5)(ht0:t<5)(hi:i=f*5+t)(hne:f≠t)(h:Inv (jJ 132 p pb c q).own w0 w0 [jJ 132 p pb c q])
  (a:Option Addr) (cp:Nat) (bs:List UInt8) (hr:Rd w0 a (bs.map bv)) (hl:bs.length<=100000) (hroom:8<=(q i).length):
  Calls prog 211 #[.pointer (some ⟨p,0,none⟩),.int .i64 f,.int .i64 t,.slice a bs.length cp] w0 λe w'=>e=.returned (.bool false)∧Below w0.heap.size w0 w':=by
 have uO:i∈bu:=nC OM OM;have hcv:f_ pb 25 (f*5+t)=.pointer (some ⟨pb i,0,none⟩):=by rw[<-hi];exact kL pb uO
 clear hi;have hI:=vE h;go_enter func211,ntmps211;go_upto_region 2 with(go_at_call 71;refine KR (uf _ p pb f t hf0 ht0 hI) ?_;rw[hcv])
 replace hI:=Ng h uO;clear h hcv;go_wp2_with(first|refine YL ?_|go_at_call 110;with_reducible refine(ZY _ (pb i) (c i) 8 (q i) (hI.sat _ aA) hroom _ _ bs hr hl).mono ?_;rintro e w1 ⟨rfl,hB⟩);go_ret;exact⟨rfl,hB⟩
theorem ab6(w0:World)(p:Nat)(pb c:Nat->Nat)(q:Nat->List QE){i:Nat}(uO:i∈bu)(h:Inv (jJ 132 p pb c q).own w0 w0 [jJ 132 p pb c q])(a0:Option Addr)(c0:Nat)(b0:List UInt8)(qt:List QE)(hq:q i=(a0,c0,b0)::qt):
  Calls prog 111 #[.pointer (some ⟨pb i,0,none⟩)] w0 λe w'=>e=.returned (.tuple #[.slice a0 b0.length c0,.bool true])∧Inv (jJ 132 p pb c q).own w0 w' [bf 5 1 (.slice a0 b0.length c0) b0.length (b0.map bv),jJ 132 p pb c (gL q i qt)]:=by
 have hI:=Ng h uO;rw[hq]at hI;refine(Py w0 (pb i) (c i) 8 a0 c0 b0 qt (hI.sat _ aA) (hI.nd aA)).mono ?_;rintro e w1 ⟨rfl,hJ⟩;refine⟨rfl,?_⟩;have h2:=hI.Ml hJ aR.here;have h3:=h2.turn (m':=ma (pb i) (c i) 8 qt::blk p 132 (bS pb 25)::fQ (bu.erase i) (pQ pb c q)::[bf 5 1 (.slice a0 b0.length c0) b0.length (b0.map bv)]) (λhs y hy=>hs y (by simp only[List.mem_cons]at hy|-;rcases hy with h|h|h|h|h<;>simp[h])) (by
  simp only[bY];refine List.Perm.trans ?_ List.perm_append_comm;simp[owned])
 have h4:=nin h3 uO;exact h4.turn (λhs y hy=>hs y (by simp only[List.mem_cons]at hy|-;rcases hy with h|h|h<;>simp[h])) (by
  simp only[bY];refine List.Perm.trans List.perm_append_comm ?_;simp[owned])
theorem Vl(w0:World)(p:Nat)(pb c:Nat->Nat)(q:Nat->List QE){i:Nat}(uO:i∈bu)(h:(jJ 132 p pb c q).sat w0):
  Calls prog 72 #[.pointer (some ⟨pb i,0,none⟩)] w0 λe w'=>e=.returned (.int .i64 (q i).length)∧w'=w0:=
 Dg w0 (pb i) (c i) 8 (q i) (h.2 i uO)
end A
namespace A
open Go.RowKit Go.Conc
theorem ah_:JK 8=8:=by decide
theorem adm:(prog.info? 132).map (·.zero)=some (some (.agg (bS (λ_=>0) 0).toArray)):=by kernel_rfl
theorem aia:dC prog 132:=by unfold dC;kernel_rfl
section
variable {P:Program}{ops:Array Oper}{Q:Exit->Act->World->Prop}{a:Act}{rest:List Oper}{w:World}{dst:Option Tmp}{ty:TypeId}{pos:String}{af:Array Edge}
theorem Bj{t:TypeId}{z:Value}{cs:List Value}(hz:(P.info? t).map (·.zero)=some (some z))(hc:z.cells=cs.toArray)(hK:dC P t)
  (k:wpList P ops Q rest (a.put dst (.agg cs.toArray)) w):wpList P ops Q (⟨dst,.build t #[],ty,pos,af,none⟩::rest) a w:=by
 refine au ?_ k;unfold fP execOp;simp only[Array.map_empty,Sem.run_bind,tT hz hc hK,Result.andThen_ok];rfl
end
theorem Rq(pb c:Nat->Nat)(j PG cn:Nat):ma PG cn 8 []=pQ (gL pb j PG) (gL c j cn) (λ_=>[]) j:=by unfold pQ;rw[bJ,bJ]
theorem HY(pb c:Nat->Nat)(j PG cn:Nat):∀i∈gV j,pQ (gL pb j PG) (gL c j cn) (λ_=>[]) i=pQ pb c (λ_=>[]) i:=λi hi=>by
 have:=FO hi;unfold pQ;rw[bZ _ _ OM,bZ _ _ OM]
theorem Vm(j:Nat):j∉gV j:=λh=>Nat.lt_irrefl _ (FO h)
theorem Z6{w0 w:World}{p:Nat}{pb c:Nat->Nat}{j PG cn:Nat}(hj:j<25)(h6:j%6≠0)(hI:Inv [] w0 w [ma PG cn 8 [],blk p 132 (splice (bS pb j) j [.pointer (some ⟨PG,0,none⟩)]),fQ (gV j) (pQ pb c (λ_=>[]))]):
  Inv [] w0 w [blk p 132 (bS (gL pb j PG) (j+1)),fQ (gV (j+1)) (pQ (gL pb j PG) (gL c j cn) (λ_=>[]))]:=by
 rw[JM _ hj h6]at hI;rw[AA hj h6];exact hI.more (Vm j) (Rq pb c j PG cn) (HY pb c j PG cn) (aR.there aR.here)
theorem Vn{w0 w:World}{p:Nat}{pb c:Nat->Nat}{j:Nat}(hj:j<25)(h6:j%6=0)(hI:Inv [] w0 w [blk p 132 (bS pb j),fQ (gV j) (pQ pb c (λ_=>[]))]):
  Inv [] w0 w [blk p 132 (bS pb (j+1)),fQ (gV (j+1)) (pQ pb c (λ_=>[]))]:=by
 rw[HV _ h6,AB hj h6];exact hI
theorem Rt{w0 w:World}{p:Nat}(hI:Inv [] w0 w [blk p 132 (bS (λ_=>0) 0)]):Inv [] w0 w [blk p 132 (bS (λ_=>0) 0),fQ (gV 0) (pQ (λ_=>0) (λ_=>0) (λ_=>[]))]:=by
 rw[JL];exact(hI.acF (pQ (λ_=>0) (λ_=>0) (λ_=>[]))).turn (λhs y hy=>hs y (by simp only[List.mem_cons]at hy|-;rcases hy with h|h|h<;>simp[h])) (by simp[owned,fQ])
theorem Z7(w0:World):Calls prog 35 #[] w0 λe w'=>∃p pb c,e=.returned (.pointer (some ⟨p,0,none⟩))∧Inv [] w0 w' [jJ 132 p pb c (λ_=>[])]:=by
 have hI:=Inv.start w0;go_enter func35,ntmps35;go_upto_region 3 with(first|with_reducible refine Bj (cs:=bS (λ_=>0) 0) adm rfl aia ?_|(with_reducible refine bN (cs:=bS (λ_=>0) 0) hI RF ?_);intro p w hI)
 replace hI:=Rt hI
 go_loopg [2,3,6,9] 5 (λkk s2 s3 i s9 wr=>∃(f:Nat) (pb c:Nat->Nat),kk=5-f∧f<=5∧i=.int .i64 f∧Inv [] w0 wr [blk p 132 (bS pb (f*5)),fQ (gV (f*5)) (pQ pb c (λ_=>[]))])
 case atStart=>exact⟨0,_,_,by omega,by omega,rfl,hI⟩
 case round=>
  clear hI;obtain⟨f,pb,c,rfl,hf,rfl,hI⟩:=hrel;by_cases rP:f<5
  ·have hfi:(f:Int) <5:=by omega
   go_upto_region 6 with(fail)
   go_loopg [3,9] 5 (λkk s3 i wr=>∃(t:Nat) (pb c:Nat->Nat),kk=5-t∧t<=5∧i=.int .i64 t∧Inv [] w0 wr [blk p 132 (bS pb (f*5+t)),fQ (gV (f*5+t)) (pQ pb c (λ_=>[]))])
   case atStart=>exact⟨0,_,_,by omega,by omega,rfl,hI⟩
   case round=>
    clear hI;obtain⟨t,pb,c,rfl,ht,rfl,hI⟩:=hrel;by_cases mR:t<5
    ·have hti:(t:Int) <5:=by omega
     by_cases hft:f=t
     ·have hbe:((f:Int)==(t:Int))=true:=by simp[hft]
      have h6:(f*5+t) %6=0:=by omega
      have hj:f*5+t<25:=by omega
      clear hft;go_wp2_with(fail);go_roundg (5- (t+1))
      case measure=>omega
      case rel=>exact⟨t+1,pb,c,by omega,by omega,by go_num,Vn hj h6 hI⟩
     ·have hbe:((f:Int)==(t:Int))=false:=by simp;omega
      have h6:(f*5+t) %6≠0:=by omega
      have hj:f*5+t<25:=by omega
      clear hft;go_upto_region 9 with(fail)
      refine wp_region_any KF ?_;replace hI:=hI.drew;change wpAny _ _ _ _ _ _ _ (World.drew _);generalize hwd:World.drew _=w9 at hI|-;clear hwd;refine wpAny_take (i:=0) (v:=?_) rfl KF KF KF (λ_ _ _ h=>h) (Or.inl ⟨by rfl,?_⟩) ?_
      (rotate_left;focus(intro w;go_simp;with_reducible rfl))
      refine wpAny_take (i:=1) (v:=?_) rfl KF KF KF (λ_ _ _ h=>h) (Or.inl ⟨by rfl,?_⟩) ?_
      (rotate_left;focus(intro w;go_simp;with_reducible rfl))
      refine wpAny_take (i:=2) (v:=?_) rfl KF KF KF (λ_ _ _ h=>h) (Or.inl ⟨by rfl,?_⟩) ?_
      (rotate_left;focus(intro w;go_simp;with_reducible rfl))
      refine wpAny_take (i:=4) (v:=?_) rfl KF KF KF (λ_ _ _ h=>h) (Or.inl ⟨by rfl,?_⟩) ?_
      (rotate_left;focus(intro w;go_simp;with_reducible rfl))
      refine wpAny_take (i:=5) (v:=?_) rfl KF KF KF (λ_ _ _ h=>h) (Or.inl ⟨by rfl,?_⟩) ?_
      (rotate_left;focus(intro w;go_simp;with_reducible rfl))
      refine wpAny_take (i:=6) (v:=?_) rfl KF KF KF (λ_ _ _ h=>h) (Or.inl ⟨by rfl,?_⟩) ?_
      (rotate_left;focus(intro w;go_simp;with_reducible rfl))
      refine O3 (i:=3) KF ?_;refine Ff (i:=3) (by rfl) RF ?_;go_wp2_with(go_at_call 62;refine(adi _ 8).mono ?_;rintro e w1 ⟨PG,cn,rfl,hJ⟩;replace hI:=hI.seq hJ;rw[ah_]at hI;simp only[List.cons_append,List.nil_append]at hI;clear hJ);refine fB ?_;refine wpAny_take (i:=7) (v:=?_) rfl KF KF KF (λ_ _ _ h=>h) (Or.inl ⟨by rfl,?_⟩) ?_
      (rotate_left;focus(intro w;go_simp;with_reducible rfl))
      refine O3 (i:=8) KF ?_;refine Ff (i:=8) (by rfl) RF ?_
      ((with_reducible refine aN (vs:=[.pointer (some ⟨PG,0,none⟩)]) hI RF RF (aR.there aR.here) PD.size rfl (by rw[kK];omega) (by simp[Value.oneCell']) ?_);intro w hI)
      refine fB ?_;refine wpAny_done KF ?_ _;go_wp2_with(fail);go_roundg (5- (t+1))
      case measure=>omega
      case rel=>exact⟨t+1,gL pb (f*5+t) PG,gL c (f*5+t) cn,by omega,by omega,by go_num,Z6 hj h6 hI⟩
    ·obtain rfl:t=5:=by omega
     go_wp2_with(fail);go_roundg (5- (f+1))
     case measure=>omega
     case rel=>exact⟨f+1,pb,c,by omega,by omega,by go_num,by rw[show(f+1)*5=f*5+5 by omega];exact hI⟩
  ·obtain rfl:f=5:=by omega
   go_wp2_with(fail);go_ret;refine⟨p,pb,c,rfl,?_⟩;have h:=hI;rw[show 5*5=25 from rfl,Ro]at h;exact Vj h
end A
namespace A
open Go.RowKit Go.Conc
theorem agf:fw prog 130 25:=⟨by kernel_rfl,by kernel_rfl⟩
theorem Vo:fw prog 129 5:=⟨by kernel_rfl,by kernel_rfl⟩
theorem agh:A9 prog 130 5 129 5:=⟨by kernel_rfl,by kernel_rfl⟩
theorem ab7:A9 prog 129 5 128 1:=⟨by kernel_rfl,by kernel_rfl⟩
theorem Nh:(prog.info? 129).map (·.zero)=some (some (.agg (List.replicate 5 (.pointer none)).toArray)):=by kernel_rfl
section
variable {P:Program}{ops:Array Oper}{Q:Exit->Act->World->Prop}{a:Act}{rest:List Oper}{w:World}{dst:Option Tmp}{ty:TypeId}{pos:String}{af:Array Edge}
theorem Bl{x y:Operand}{t len e q:Nat}{k0:IntKind}{i:Int}{cs vs:List Value}(hx:a.eval x=.agg cs.toArray)(hy:a.eval y=.int k0 i)(hA:A9 P t len e q)(hT:fw P e q)(h0:0<=i)(h1:i<len)(hv:(cs.drop (i.toNat*q)).take q=vs)
  (k:wpList P ops Q rest (a.put dst (.agg vs.toArray)) w):wpList P ops Q (⟨dst,.index t x y,ty,pos,af,none⟩::rest) a w:=by
 refine au ?_ k;unfold fP execOp;simp only[hx,hy,Sem.run_bind,sw hA h0 h1,yC hT,Result.andThen_ok,hv];rfl
theorem uI{x y:Operand}{t len e:Nat}{k0:IntKind}{i:Int}{cs:List Value}{v:Value}(hx:a.eval x=.agg cs.toArray)(hy:a.eval y=.int k0 i)(hA:A9 P t len e 1)(hT:jg P e)(h0:0<=i)(h1:i<len)(hv:cs[i.toNat]? =some v)
  (k:wpList P ops Q rest (a.put dst v) w):wpList P ops Q (⟨dst,.index t x y,ty,pos,af,none⟩::rest) a w:=by
 refine au ?_ k;unfold fP execOp;have hv':cs[i.toNat*1]? =some v:=by rw[Nat.mul_one];exact hv
 simp only[hx,hy,Sem.run_bind,sw hA h0 h1,pJ hT hv',Result.andThen_ok];rfl
end
theorem t_{vs:List Value}{n:Nat}{z:Value}(h:vs.length=n):splice (List.replicate n z) 0 vs=vs:=by
 simp[splice,h]
theorem _root_.Go.Proofs.YtdakkaapokhnnaaGreatDoor.Inv.kept{w0 w:World}{m:List aG}{r:aG}(h:Inv [] w0 w m)(hs:r.sat w0)(hlt:∀k∈r.own,k<w0.heap.size):r.sat w:=
 r.loc w0 w (λk hk=>h.old k (hlt k hk) SI) hs
def rowOf(pb:Nat->Nat)(f:Nat):List Value:=((bS pb 25).drop (f*5)).take 5
theorem j_(pb:Nat->Nat){f:Nat}(hf:f<5):(rowOf pb f).length=5:=by
 simp only[rowOf,List.length_take,List.length_drop,kK];omega
theorem Ru(pb:Nat->Nat){f t:Nat}(hf:f<5)(ht:t<5):(rowOf pb f)[t]? =some (f_ pb 25 (f*5+t)):=by
 rw[rowOf,List.getElem?_take_of_lt ht,List.getElem?_drop,oK _ _ OM]
theorem Ni(pb:Nat->Nat)(n i:Nat):(f_ pb n i).oneCell'=true:=by
 unfold f_;split<;>rfl
theorem Rv(pb:Nat->Nat)(f:Nat):∀u∈rowOf pb f,u.oneCell'=true:=λu hu=>by
 have:=List.mem_of_mem_drop (List.mem_of_mem_take hu);obtain⟨i,_,rfl⟩:=List.mem_map.1 this;exact Ni _ _ _
theorem JN(q:Nat->List QE)(h:∀i∈bu,(q i).length<=8):∀j,j<=25->pF q j<=j*8
 |0,_=>by rw[Pz];omega
 |j+1,hj=>by
  have ih:=JN q h j OM;by_cases h6:j%6=0
  ·rw[Dj q OM h6];omega
  ·rw[Dk q OM h6]
   have:=h j (nC OM h6);omega
theorem Z8(w0:World)(p:Nat)(pb c:Nat->Nat)(q:Nat->List QE)(hq:∀i∈bu,(q i).length<=8)(h:Inv (jJ 132 p pb c q).own w0 w0 [jJ 132 p pb c q]):
  Calls prog 49 #[.pointer (some ⟨p,0,none⟩)] w0 λe w'=>e=.returned (.int .i64 (pF q 25))∧Below w0.heap.size w0 w':=by
 have hblk:w0.heap[p]? =some (.cells (bS pb 25).toArray 132 (0,0)):=(vE h).blk aA;have hcells:mW w0 p 0 (bS pb 25):=λj hj=>by rw[mV hblk,Nat.zero_add];exact List.getElem?_eq_getElem hj
 have adn:∀i∈bu,(ma (pb i) (c i) 8 (q i)).sat w0∧∀k∈(ma (pb i) (c i) 8 (q i)).own,k<w0.heap.size:=λi hi=>by
  have h2:=Ng h hi;exact⟨h2.sat _ aA,λk hk=>(h2.mine k (dE.2 ⟨_,aA,hk⟩)).2⟩
 have hle:=JN q hq;clear h hblk;have hI:=Inv.start w0;go_enter func49,ntmps49;go_upto_region 3 with(with_reducible refine uE (vs:=bS pb 25) hI RF hcells SI (by rw[kK];exact agf) ?_)
 go_loopg [3,5,7,12,16] 5 (λkk s3 s5 s7 i s16 wr=>∃(f:Nat),kk=5-f∧f<=5∧i=.int .i64 f∧s3=.int .i64 (pF q (f*5))∧Inv [] w0 wr [])
 case atStart=>exact⟨0,by omega,by omega,rfl,by rw[Nat.zero_mul,Pz];rfl,hI⟩
 case round=>
  clear hI;obtain⟨f,rfl,hf,rfl,rfl,hI⟩:=hrel;by_cases rP:f<5
  ·have hfi:(f:Int) <5:=by omega
   obtain⟨Z9,JO⟩:=EQ (rowOf pb f);have hr5:Z9.length=5:=by rw[<-JO];exact j_ pb rP
   have hone:∀u∈Z9,u.oneCell'=true:=by rw[<-JO];exact Rv pb f
   have hrow:((bS pb 25).drop ((f:Int).toNat*5)).take 5=Z9:=by rw[<-JO];rfl
   have hget:∀t,t<5->Z9[t]? =some (f_ pb 25 (f*5+t)):=λt ht=>by rw[<-JO];exact Ru pb rP ht
   clear JO;go_upto_region 4 with(fail)
   go_upto_region 5 with(first|with_reducible refine Bl (cs:=bS pb 25) (vs:=Z9) RF RF agh Vo OM OM hrow ?_|(with_reducible refine aL (cs:=List.replicate 5 (.pointer none)) hI Nh rfl ?_);intro bx w hI|(with_reducible refine aN (cs:=List.replicate 5 (.pointer none)) (vs:=Z9) hI RF RF aR.here Vo.size hr5 SI hone ?_);intro w hI;rw[t_ hr5]at hI)
   go_upto_region 6 with((with_reducible refine bL (cs:=Z9) hI RF aA Vo (by rw[hr5];decide) ?_;simp only[List.drop_zero,List.take_of_length_le (Nat.le_of_eq hr5)]))
   go_loopg [3,7,16] 5 (λkk s3 s7 i wr=>∃(t:Nat),kk=5-t∧t<=5∧i=.int .i64 t∧s3=.int .i64 (pF q (f*5+t))∧Inv [] w0 wr [])
   case atStart=>exact⟨0,by omega,by omega,rfl,rfl,hI.sub (List.nil_sublist _)⟩
   case round=>
    clear hI;obtain⟨t,rfl,ht,rfl,rfl,hI⟩:=hrel;by_cases mR:t<5
    ·have hti:(t:Int) <5:=by omega
     have hj:f*5+t<25:=by omega
     have hcv:=hget t mR;clear hget hrow;by_cases h6:(f*5+t) %6=0
     ·have hc0:f_ pb 25 (f*5+t)=.pointer none:=by unfold f_;rw[if_pos (.inl h6)]
      rw[hc0]at hcv;clear hc0;go_wp2_with(with_reducible refine uI (cs:=Z9) (v:=.pointer none) RF RF ab7 PD OM OM (by rw[Int.toNat_natCast];exact hcv) ?_);go_roundg (5- (t+1))
      case measure=>omega
      case rel=>exact⟨t+1,by omega,by omega,by go_num,by rw[show f*5+(t+1)=f*5+t+1 from rfl,Dj q hj h6],hI⟩
     ·have hjw:f*5+t∈bu:=nC hj h6
      have hc0:=kL pb hjw;have hq8:=hq _ hjw;have aje:=hle _ (Nat.le_of_lt hj);have hbs:=hI.kept (adn _ hjw).1 (adn _ hjw).2;have hmore:=Dk q hj h6;rw[hc0]at hcv;clear hc0 adn;generalize hjj:f*5+t=j at*;clear hjw;go_wp2_with(first|with_reducible refine uI (cs:=Z9) (v:=.pointer (some ⟨pb j,0,none⟩)) RF RF ab7 PD OM OM (by rw[Int.toNat_natCast];exact hcv) ?_|go_at_call 72;refine KR (Dg _ (pb j) (c j) 8 (q j) hbs) ?_);go_roundg (5- (t+1))
      case measure=>omega
      case rel=>exact⟨t+1,by omega,by omega,by go_num,by rw[show f*5+(t+1)=f*5+t+1 from rfl,hjj,hmore];go_num,hI⟩
    ·obtain rfl:t=5:=by omega
     go_wp2_with(fail);go_roundg (5- (f+1))
     case measure=>omega
     case rel=>exact⟨f+1,by omega,by omega,by go_num,by rw[show(f+1)*5=f*5+5 by omega],hI⟩
  ·obtain rfl:f=5:=by omega
   go_wp2_with(fail);go_ret;exact⟨rfl,hI.below⟩
end A
namespace B
def lC(r1 w1 r2 w2:Int):Bool:=if r1=r2 then decide (w1<w2)else decide (r1<r2)
theorem Vq{r1 w1 r2 w2:Int}(h:¬r1=r2):decide (r1<r2)=lC r1 w1 r2 w2:=by unfold lC;rw[if_neg h]
theorem Vr{r1 w1 w2:Int}:decide (w1<w2)=lC r1 w1 r1 w2:=by unfold lC;rw[if_pos rfl]
theorem JU(w:World)(r1 w1 r2 w2:Int):Calls prog 180 #[.agg #[.int .i64 r1,.int .i64 w1],.agg #[.int .i64 r2,.int .i64 w2]] w λe w'=>e=.returned (.bool (lC r1 w1 r2 w2))∧Below w.heap.size w w':=by
 by_cases h:r1=r2
 ·subst h
  go_enter func180,ntmps180
  go_wp2
  go_ret;exact⟨eH Vr,Yt (Yt (b0 w) _) _⟩
 ·have hb:(r1==r2)=false:=by simpa using h
  have hb2:(r1 != r2)=true:=by simpa using h
  go_enter func180,ntmps180
  go_wp2
  go_ret;exact⟨eH (Vq h),Yt (Yt (b0 w) _) _⟩
def cz(ep vr vw nD r ww:Int):Bool:=decide (¬nD=ep) ||decide (r<1) ||lC r ww vr vw
theorem u7(w:World)(ep vr vw hr hw ck cw ch nD r ww:Int):
  Calls prog 160 #[.agg #[.int .i64 ep,.int .i64 vr,.int .i64 vw,.int .i64 hr,.int .i64 hw,.int .i64 ck,.int .i64 cw,.int .i64 ch],.int .i64 nD,.agg #[.int .i64 r,.int .i64 ww]] w λe w'=>e=.returned (.bool (cz ep vr vw nD r ww))∧Below w.heap.size w w':=by
 by_cases h:nD=ep
 ·subst h
  by_cases h1:r<1
  ·go_enter func160,ntmps160
   go_wp2
   go_ret;exact⟨eH (by simp[cz,h1]),Yt (Yt (b0 w) _) _⟩
  ·have hd:decide (r<1)=false:=by simpa using h1
   go_enter func160,ntmps160;go_wp2_with(go_at_call 180;refine(JU _ _ _ _ _).mono ?_;rintro e w1 ⟨rfl,hw1⟩);go_ret;exact⟨eH (by simp[cz];intro h;omega),bup (Yt (Yt (b0 w) _) _) hw1⟩
 ·have hb:(nD==ep)=false:=by simpa using h
  have hb2:(nD != ep)=true:=by simpa using h
  go_enter func160,ntmps160
  go_wp2
  go_ret;exact⟨eH (by simp[cz,h]),Yt (Yt (b0 w) _) _⟩
def acc(ep vr vw hr hw ck cw ch:Int):List Value:=[.int .i64 ep,.int .i64 vr,.int .i64 vw,.int .i64 hr,.int .i64 hw,.int .i64 ck,.int .i64 cw,.int .i64 ch]
theorem aad(w0:World)(ep vr vw hr hw ck cw ch nD r ww:Int)(h:cz ep vr vw nD r ww=false):
  Calls prog 126 #[.agg #[.int .i64 ep,.int .i64 vr,.int .i64 vw,.int .i64 hr,.int .i64 hw,.int .i64 ck,.int .i64 cw,.int .i64 ch],.int .i64 nD,.agg #[.int .i64 r,.int .i64 ww]] w0 λe w'=>
   e=.returned (.tuple #[.agg #[.int .i64 ep,.int .i64 r,.int .i64 ww,.int .i64 hr,.int .i64 hw,.int .i64 ck,.int .i64 cw,.int .i64 ch],.bool true])∧Below w0.heap.size w0 w':=by
 have hI:=Inv.start w0;go_enter func126,ntmps126;go_wp2_with(first|(with_reducible refine bL hI RF MM (by first|with_reducible exact gM|with_reducible exact wY) SI ?_);simp only[List.drop_succ_cons,List.drop_zero,List.take_succ_cons,List.take_zero]|(with_reducible refine aN hI RF RF UU (by first|with_reducible exact gM.size|with_reducible exact wY.size) RF SI (by simp[Value.oneCell']) ?_);intro w hI;simp only[splice,List.drop_succ_cons,List.drop_zero,List.take_succ_cons,List.take_zero,List.length_cons,List.length_nil,Nat.zero_add,Nat.reduceAdd,List.nil_append,List.cons_append,List.append_nil,List.drop_nil]at hI|(with_reducible refine bN hI RF ?_);intro bx w hI|(with_reducible refine aL hI (by first|with_reducible exact Mx|with_reducible exact MB) RF ?_);intro bx w hI|go_at_call 160;refine KD hI (u7 _ _ _ _ _ _ _ _ _ _ _ _) ?_;intro w1 hI);exact W89
theorem adt(w0:World)(ep vr vw hr hw ck cw ch nD r ww:Int)(h:cz ep vr vw nD r ww=true):
  Calls prog 126 #[.agg #[.int .i64 ep,.int .i64 vr,.int .i64 vw,.int .i64 hr,.int .i64 hw,.int .i64 ck,.int .i64 cw,.int .i64 ch],.int .i64 nD,.agg #[.int .i64 r,.int .i64 ww]] w0 λe w'=>
   e=.returned (.tuple #[.agg #[.int .i64 ep,.int .i64 vr,.int .i64 vw,.int .i64 hr,.int .i64 hw,.int .i64 ck,.int .i64 cw,.int .i64 ch],.bool false])∧Below w0.heap.size w0 w':=by
 have hI:=Inv.start w0;go_enter func126,ntmps126;exact W12
theorem Hy(w0:World)(ep vr vw hr hw ck cw ch nD r ww k1 k2 k3:Int)(h:cz ep vr vw nD r ww=false):
  Calls prog 179 #[.agg #[.int .i64 ep,.int .i64 vr,.int .i64 vw,.int .i64 hr,.int .i64 hw,.int .i64 ck,.int .i64 cw,.int .i64 ch],.int .i64 nD,.agg #[.int .i64 r,.int .i64 ww],.agg #[.int .i64 k1,.int .i64 k2,.int .i64 k3]] w0 λe w'=>
   e=.returned (.tuple #[.agg #[.int .i64 ep,.int .i64 r,.int .i64 ww,.int .i64 r,.int .i64 ww,.int .i64 k1,.int .i64 k2,.int .i64 k3],.bool true])∧Below w0.heap.size w0 w':=by
 have hI:=Inv.start w0;go_enter func179,ntmps179;go_wp2_with(first|(with_reducible refine bL hI RF MM (by first|with_reducible exact gM|with_reducible exact wY) SI ?_);simp only[List.drop_succ_cons,List.drop_zero,List.take_succ_cons,List.take_zero]|(with_reducible refine bN hI RF ?_);intro bx w hI|(with_reducible refine aL hI (by first|with_reducible exact Mx|with_reducible exact MB) RF ?_);intro bx w hI|go_at_call 160;refine KD hI (u7 _ _ _ _ _ _ _ _ _ _ _ _) ?_;intro w1 hI)
 (obtain⟨mE,qm⟩:=gX hI;refine aH (C:=λw'=>Inv _ _ w' _) [4,6,8] (λw'=>Inv _ _ w' (List.eraseIdx (mE) 3)) hI.drew (λw' h=>Inv.sub h (by subst qm;((try simp only[vV]);repeat(first|exact List.Sublist.slnil|with_reducible apply List.Sublist.cons_cons|apply List.Sublist.cons)))) mixed KF ?_;subst qm;clear hI;(repeat(first| ((with_reducible apply dw);rfl;rfl;rfl;(focus(intro w (hI:Inv _ _ w _);go_wp2_with((with_reducible refine aN hI RF RF Ty (by first|with_reducible exact gM.size|with_reducible exact Cj.size) RF SI (by simp[Value.oneCell']) ?_);intro w hI;simp only[splice,List.drop_succ_cons,List.drop_zero,List.take_succ_cons,List.take_zero,List.length_cons,List.length_nil,Nat.zero_add,Nat.reduceAdd,List.nil_append,List.cons_append,List.append_nil,List.drop_nil]at hI);(try simp only[QN]);exact⟨rfl,rfl,hI⟩));(exact⟨undef,rfl⟩);(focus(intro w (hI:Inv _ _ w _);exact Inv.sub hI SB))) | ((with_reducible apply aZ);rfl;rfl;(focus(intro w (hI:Inv _ _ w _);go_wp2_with((with_reducible refine bL hI RF aX (by with_reducible exact gM) SI ?_);simp only[List.drop_succ_cons,List.drop_zero,List.take_succ_cons,List.take_zero]);(try simp only[QN]);exact⟨rfl,rfl,hI⟩));(exact⟨_,rfl⟩)) | ((with_reducible apply cZ);rfl;rfl;(focus(intro D w hD hE;have hI:Inv _ _ w _:=hE;(try simp only[vV]at hI);go_wp2_with((with_reducible refine bL hI RF MM (by first|with_reducible exact gM|with_reducible exact Cj) SI ?_);simp only[List.drop_succ_cons,List.drop_zero,List.take_succ_cons,List.take_zero]);(try simp only[QN]);exact⟨rfl,rfl,hD⟩));(exact⟨_,rfl⟩))));(refine bn ?_;intro w (hI:Inv _ _ w _)))
 go_wp2_with(first|(with_reducible refine bL hI RF mU (by with_reducible exact wY) SI ?_);simp only[List.drop_succ_cons,List.drop_zero,List.take_succ_cons,List.take_zero]|(with_reducible refine aN hI RF RF jy (by with_reducible exact wY.size) RF SI (by simp[Value.oneCell']) ?_);intro w hI;simp only[splice,List.drop_succ_cons,List.drop_zero,List.take_succ_cons,List.take_zero,List.length_cons,List.length_nil,Nat.zero_add,Nat.reduceAdd,List.nil_append,List.cons_append,List.append_nil,List.drop_nil]at hI);exact W89
theorem Nb(w0:World)(ep vr vw hr hw ck cw ch nD r ww k1 k2 k3:Int)(h:cz ep vr vw nD r ww=true):
  Calls prog 179 #[.agg #[.int .i64 ep,.int .i64 vr,.int .i64 vw,.int .i64 hr,.int .i64 hw,.int .i64 ck,.int .i64 cw,.int .i64 ch],.int .i64 nD,.agg #[.int .i64 r,.int .i64 ww],.agg #[.int .i64 k1,.int .i64 k2,.int .i64 k3]] w0 λe w'=>
   e=.returned (.tuple #[.agg #[.int .i64 ep,.int .i64 vr,.int .i64 vw,.int .i64 hr,.int .i64 hw,.int .i64 ck,.int .i64 cw,.int .i64 ch],.bool false])∧Below w0.heap.size w0 w':=by
 have hI:=Inv.start w0;go_enter func179,ntmps179;exact W12
end B
structure wR (w:World) (a:Option Addr) (len k:Nat) (row:Nat->List Int):Prop where
 reach:len<=140737488351232
 row:∀i,i<len->(row i).length=k∧(∀j,-9223372036854775808<=gi (row i) j∧gi (row i) j<=9223372036854775807)∧∃b off,a=some ⟨b,off,none⟩∧mW w b (off+i*k) ((row i).map (Value.int .i64))
theorem Fb.ints{w:World}{a:Option Addr}{len c k:Nat}{row:Nat->List Value}(h:Fb w a len c (List.replicate k Mf) row):∃r,wR w a len k r:=by
 exact W28
theorem wR.later{w w0:World}{a:Option Addr}{len k:Nat}{row:Nat->List Int}{m:List aG}(h:wR w0 a len k row)(hI:Inv [] w0 w m):wR w a len k row:=
 ⟨h.reach,λi hi=>⟨(h.row i hi).1,(h.row i hi).2.1,by
  obtain⟨b,off,h1,h2⟩:=(h.row i hi).2.2;exact⟨b,off,h1,h2.later hI SI⟩⟩⟩
