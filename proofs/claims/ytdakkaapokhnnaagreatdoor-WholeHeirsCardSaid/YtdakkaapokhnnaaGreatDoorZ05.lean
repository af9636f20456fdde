/- Contracts of functions. No condition. -/
import Derived.Test.YtdakkaapokhnnaaGreatDoorZ02
namespace Go.Proofs.YtdakkaapokhnnaaGreatDoor
open Go.RowKit Go.Proofs.Tryz
set_option maxRecDepth 100000
set_option maxHeartbeats 6400000
set_option linter.all false
def st1(s:UInt32):UInt32:=if s &&& 1=1 then(s>>>1) ^^^3988292384 else s>>>1
def stn:Nat->UInt32->UInt32
 |0,s=>s
 |n+1,s=>stn n (st1 s)
def uo(s:UInt32)(c:UInt8):UInt32:=stn 8 (s^^^c.toUInt32)
def CL(s:UInt32)(bs:List UInt8):UInt32:=bs.foldl uo s
def Bys(w:World)(a:Option Addr)(bs:List UInt8):Prop:=bs≠[]->∃b off,a=some ⟨b,off,none⟩∧∀i (h:i<bs.length),w.cell? ⟨b,off+i,none⟩=some (.int .u8 (bs[i].toNat:Int))
structure Part where
 a:Option Addr
 cap:Nat
 bs:List UInt8
def Parts(w:World)(a:Option Addr)(ps:List Part):Prop:=ps≠[]->∃b off,a=some ⟨b,off,none⟩∧∀i (h:i<ps.length),w.cell? ⟨b,off+i,none⟩=some (.slice ps[i].a ps[i].bs.length ps[i].cap)∧Bys w ps[i].a ps[i].bs∧ps[i].bs.length<=maxLen
def JY(s:UInt32)(ps:List Part):UInt32:=ps.foldl (λs p=>CL s p.bs) s
theorem yV(a b:UInt32):bits .xor .u32 (a.toNat:Int) (b.toNat:Int)=((a^^^b).toNat:Int):=by
 rw[u32_xor_nat a.toNat b.toNat (by have:=a.toNat_lt;omega) (by have:=b.toNat_lt;omega)];simp
theorem Pw(a b:UInt32):bits .and .u32 (a.toNat:Int) (b.toNat:Int)=((a &&& b).toNat:Int):=by
 rw[u32_and_nat a.toNat b.toNat (by have:=a.toNat_lt;omega) (by have:=b.toNat_lt;omega)];simp
theorem zX(a:UInt32):bits .and .u32 (a.toNat:Int) 1=((a &&& 1).toNat:Int):=Pw a 1
theorem Sn(a:UInt32):(a.toNat:Int) / (2:Int)=((a>>>1).toNat:Int):=by simp[Nat.shiftRight_eq_div_pow]
theorem acG(s)(h:s &&& 1=1):bits .xor .u32 ((s.toNat:Int) /2) 3988292384=((st1 s).toNat:Int):=by
 rw[Sn,st1,if_pos h];exact yV (s>>>1) 3988292384
theorem XY(s)(h:¬s &&& 1=1):((s.toNat:Int) /2)=((st1 s).toNat:Int):=by
 rw[Sn,st1,if_neg h]
theorem XZ(s:UInt32)(h:s &&& 1=1):(bits BinOp.and IntKind.u32 (s.toNat:Int) 1==1)=true:=by
 rw[zX,h];rfl
theorem UH(s:UInt32)(h:¬s &&& 1=1):(bits BinOp.and IntKind.u32 (s.toNat:Int) 1==1)=false:=by
 rw[zX];rw[beq_eq_false_iff_ne];intro h2;apply h;apply UInt32.toNat_inj.1
 grind
theorem aje(a:UInt32):bits .xor .u32 4294967295 (a.toNat:Int)=((~~~ a).toNat:Int):=by
 have:=yV 4294967295 a;congr 2
theorem c32(c:UInt8):((c.toNat:Int) %4294967296)=(c.toUInt32.toNat:Int):=by
 have:=c.toNat_lt;simp;omega
theorem X0(m)(h:m<8)(s):stn (8-m) s=stn (8- (m+1)) (st1 s):=by
 rw[show 8-m=(8- (m+1))+1 from by omega,stn]
theorem UI(s)(bs:List UInt8)(j h):CL s (bs.take (j+1))=uo (CL s (bs.take j)) bs[j]:=by
 grind[List.take_succ_eq_append_getElem,CL.eq_1]
theorem UJ(s)(ps:List Part)(j h):JY s (ps.take (j+1))=CL (JY s (ps.take j)) ps[j].bs:=by
 grind[List.take_succ_eq_append_getElem,JY.eq_1]
def crc(bs:List UInt8):UInt32:= ~~~ (CL 0xFFFFFFFF bs)
def flat(ps:List Part):List UInt8:=ps.flatMap (·.bs)
theorem acH(s ps):JY s ps=CL s (flat ps):=by
 induction ps generalizing s with
 |nil=>rfl
 |cons p ps ih=>simp_all[JY,flat,CL]
theorem acI(ps):bits .xor .u32 IntKind.u32.max ((JY 0xFFFFFFFF ps).toNat:Int)=((crc (flat ps)).toNat:Int):=by
 show bits .xor .u32 4294967295 _=_;rw[aje,acH];rfl
def bv(c:UInt8):Value:=.int .u8 (c.toNat:Int)
theorem yX(bs:List UInt8):∀u∈bs.map bv,u.oneCell'=true:=by
 intro u hu;obtain⟨_,_,rfl⟩:=List.mem_map.1 hu;rfl
theorem addr_add(b off i):(⟨b,off,none⟩:Addr).add i=⟨b,off+i,none⟩:=by
 unfold Addr.add;grind
theorem Bys.cells{w a bs}(h:Bys w (some a) bs):∀j u,(bs.map bv)[j]? =some u->w.cell? (a.add j)=some u:=by
 intro j u hu;rw[List.getElem?_map]at hu;obtain⟨c,hc,rfl⟩:=Option.map_eq_some_iff.1 hu;obtain⟨hj,rfl⟩:=List.getElem?_eq_some_iff.1 hc;obtain⟨b,off,hab,hcell⟩:=h (by grind);obtain rfl:=Option.some.inj hab;rw[addr_add];exact hcell j hj
theorem Bys.below{w w' a bs}(h:Bys w a bs)(hb:Below w.heap.size w w'):Bys w' a bs:=by
 intro hn;obtain⟨b,off,hab,hc⟩:=h hn;refine⟨b,off,hab,λi hi=>?_⟩;have:=hc i hi;exact(hb.cell (World.block_lt_of_cell? _ _ this)).trans this
def Own(w:World)(base:Nat)(v:Value)(bs:List UInt8):Prop:=w.ownsRow base 5 1 v bs.length (bs.map bv)
theorem Own.val{w base v bs}(h:Own w base v bs):∃a cap,v=.slice a bs.length cap∧Bys w a bs∧bs.length<=maxLen∧bs.length<=cap∧cap<=maxLen∧(a=none->bs=[]∧cap=0)∧∀x,a=some x->base<=x.block∧x.block<w.heap.size∧x=⟨x.block,0,none⟩:=by
 rcases h with⟨h1,⟨rfl,h0⟩ | ⟨g,cap,cur,rfl,hg,hh,hc,hm,hs,ht⟩⟩
 ·have:bs=[]:=List.eq_nil_of_length_eq_zero h0
  subst this;exact⟨none,0,rfl,λh=>absurd rfl h,Nat.zero_le _,Nat.le_refl _,Nat.zero_le _,λ_=>⟨rfl,rfl⟩,λ_ h=>(nomatch h)⟩
 ·refine⟨_,cap,rfl,λ_=>⟨g,0,rfl,λi hi=>?_⟩,Nat.le_trans hc hm,hc,hm,λh=>(nomatch h),λx hx=>?_⟩
  ·simp only[Nat.zero_add]
   rw[cell_of_row w g i cur 5 (0,0) hh];have:(bs.map bv)[i]? =some (bv bs[i]):=by simp[hi]
   grind[bv]
  grind
theorem Own.kept{w w' base v bs}(h:Own w base v bs)(hb:Below w.heap.size w w'):Own w' base v bs:=by
 refine⟨h.1,?_⟩;rcases h.2 with h0| ⟨g,cap,cur,rfl,hg,hh,hc,hm,hs,ht⟩
 ·grind
 ·exact .inr ⟨g,cap,cur,rfl,hg,(hb.block g (Array.getElem?_eq_some_iff.1 hh).1).trans hh,hc,hm,hs,ht⟩
theorem Own.nil(w base):Own w base (.slice none 0 0) []:=World.ownsRow_nil w base 5 1
structure X3 (w:World) (a:Option Addr) (c:Nat) (bs:List UInt8):Prop where
 bys:Bys w a bs
 nil:a=none->c=0
 le:bs.length<=c
 reach:c<=140737488351232
theorem X3.below{w w' a c bs}(h:X3 w a c bs)(hb:Below w.heap.size w w'):X3 w' a c bs:=
 ⟨h.bys.below hb,h.nil,h.le,h.reach⟩
theorem yB{w w' row}(h:w.grownBy w' row):Step row.toList w w':=
 ⟨h.os,h.tape,h.output,h.size,λk hk hn=>h.block k hk (λe=>hn (by grind))⟩
theorem UK{w a bs}(h:Rd w a (bs.map bv)):Bys w a bs:=by
 intro hn;cases bs with
 |nil=>grind
 |cons c cs=>
  obtain⟨b,off,hab,_⟩:=h 0 (bv c) rfl;refine⟨b,off,hab,λi hi=>?_⟩;obtain⟨b',off',hab',hc⟩:=h i (bv (c::cs)[i]) (by grind);rw[hab]at hab';cases hab';exact hc
theorem L9{w a ps}(h:Rd w a (ps.map λp=> .slice p.a p.bs.length p.cap))(hp:∀p∈ps,Rd w p.a (p.bs.map bv)∧p.bs.length<=maxLen):Parts w a ps:=by
 intro hn;cases ps with
 |nil=>grind
 |cons p qs=>
  obtain⟨b,off,hab,_⟩:=h 0 _ rfl;refine⟨b,off,hab,λi hi=>?_⟩;obtain⟨b',off',hab',hc⟩:=h i (.slice (p::qs)[i].a (p::qs)[i].bs.length (p::qs)[i].cap) (by grind)
  grind[UK]
theorem xD{w a' a c bs}(h:Rd w a' [.slice a bs.length c])(hr:Rd w a (bs.map bv))(hl:bs.length<=maxLen):Parts w a' [⟨a,c,bs⟩]:=
 L9 h (λp hp=>by grind)
section
variable {P:Program}{ops:Array Oper}{Q:Exit->Act->World->Prop}{a:Act}{rest:List Oper}{T:List Nat}{w0 w:World}{m m':List bT}{dst:Option Tmp}{ty:TypeId}{pos:String}{af:Array Edge}
theorem JZ{t e size bytes c:Nat}{kl kc z x y}(hI:Inv T w0 w m)(hT:wy P t e size bytes z)(hx:a.eval x=.int kl 0)(hy:a.eval y=.int kc (c:Int))(hb:bytes*c<=281474976710656)(h63:c<=maxLen)(k:∀b w',Inv T w0 w' (bD e size (.slice (some ⟨b,0,none⟩) 0 c) 0 []::m)->wpList P ops Q rest (a.put dst (.slice (some ⟨b,0,none⟩) 0 c)) w'):
  wpList P ops Q (⟨dst,.makeSlice t x y,ty,pos,af,none⟩::rest) a w:=
 wpList_plain rfl λK hK=>by
  obtain⟨i,hi,hz,rfl,rfl⟩:=hT.info;obtain⟨w',hr,ho,hg⟩:=run_make_own (P:=P) w 0 t e i z i.size hT.und hi hz rfl kl kc c hb h63 (Nat.zero_le _);unfold Oper.wp execOp;simp only[hx,hy,Sem.run_bind,hr,Result.andThen_ok,Sem.run_pure];refine hK _ _ (k w.heap.size w' (hI.new (yB hg) ho ?_ ?_))
  ·intro j hj
   have hj:j=w.heap.size:=by simpa[bD,Value.ownBlock]using hj
   have:=ho.lt w.heap.size rfl;omega
  grind[bD]
theorem oD{t e size bytes:Nat}{z}(hI:Inv T w0 w m)(hT:wy P t e size bytes z)(k:∀b w',Inv T w0 w' (bD e size (.slice (some ⟨b,0,none⟩) 0 0) 0 []::m)->wpList P ops Q rest (a.put dst (.slice (some ⟨b,0,none⟩) 0 0)) w'):
  wpList P ops Q (⟨dst,.buildSlice t 0 #[],ty,pos,af,none⟩::rest) a w:=
 wpList_plain rfl λK hK=>by
  obtain⟨i,hi,hz,rfl,rfl⟩:=hT.info;unfold Oper.wp execOp;have hrun:(Instr.buildSlice t 0 ((#[]:Array (Nat×Operand)).map λ(i,x)=>(i,a.eval x))).run P w=.ok (.slice (some ⟨w.heap.size,0,none⟩) 0 0) (w.alloc (.cells #[] e)):=by
   simp only[Instr.buildSlice,Sem.run_bind,run_underlying hT.und,Result.andThen_ok,dX (show(P.info? e).map (·.size)=some i.size by grind),Nat.zero_mul,Nat.not_lt_zero,gt_iff_lt,if_false,if_true,Sem.run_pure,Array.map_empty];rw[show Array.range 0=#[]from by decide];simp only[Array.map_empty,Instr.fill];rfl
  simp only[Sem.run_bind,hrun,Result.andThen_ok,Sem.run_pure];refine hK _ _ (k w.heap.size _ ?_);refine hI.new ⟨rfl,rfl,rfl,by simp,λk hk _=>_root_.Go.heap_alloc_old w _ hk⟩ ?_ (by simp[bD,Value.ownBlock]) (by grind[bD]);exact⟨by simp,.inr ⟨w.heap.size,0,#[],rfl,Nat.zero_le _,heap_alloc_new w _,Nat.le_refl _,Nat.zero_le _,by simp,by simp⟩⟩
end
namespace A
def UX:List UInt8->Nat
 | []=>0
 |c::bs=>c.toNat+256*UX bs
theorem Sz:∀ {a b},a.length=b.length->UX a=UX b->a=b
 | [],[],_,_=>rfl
 |c::a,d::b,hl,h=>by
  have h1:=c.toNat_lt;have h2:=d.toNat_lt;simp only[UX]at h;have e:c.toNat=d.toNat:=by omega
  have e1:c=d:=UInt8.toNat_inj.1 e;have e2:a=b:=Sz (by grind) OM
  grind
def le4(s:UInt32):List UInt8:=[s.toUInt8,(s>>>8).toUInt8,(s>>>16).toUInt8,(s>>>24).toUInt8]
theorem SA(s):UX (le4 s)=s.toNat:=by
 have:=s.toNat_lt;simp only[UX,le4,UInt32.toNat_toUInt8,UInt32.toNat_shiftRight];rw[show(8:UInt32).toNat %32=8 from rfl,show(16:UInt32).toNat %32=16 from rfl,show(24:UInt32).toNat %32=24 from rfl];omega
def ui(b:List UInt8):List UInt8:=b++le4 (crc b)
def kr(p:List UInt8):Option (List UInt8):=if 4<=p.length∧(crc (p.take (p.length-4))).toNat=UX (p.drop (p.length-4))then some (p.take (p.length-4))else none
theorem SC(s):(le4 s).length=4:=rfl
theorem lD(b):(ui b).length=b.length+4:=by simp[ui,le4]
theorem Mi(b):kr (ui b)=some b:=by
 have e:(ui b).length -4=b.length:=by rw[lD];omega
 unfold kr;rw[e,ui,List.take_left,List.drop_left,if_pos ⟨by simp[le4],(SA _).symm⟩]
theorem uu{p t}(h:kr p=some t):ui t=p:=by
 grind[A.kr,A.Sz,A.SC,A.SA,A.ui.eq_1,List.take_append_drop]
end A
namespace A
theorem J4(w a ps cap)(hps:Parts w a ps)(hl:ps.length<=maxLen):Calls prog 177 #[.slice a ps.length cap] w λe w'=>e=.returned (.int .u32 ((crc (flat ps)).toNat:Int))∧w'=w:=by
 unfold maxLen at hl;go_enter func177,ntmps177
 go_wp2
 go_loop [3,10] (λrest i=>∃(k:Nat),k<=ps.length∧i=.int .i64 k∧rest=.int .u32 ((JY 0xFFFFFFFF (ps.take k)).toNat:Int)) (λ_ i=>ps.length- (intOf i).toNat)
 case atStart=>exact⟨0,by omega,rfl,rfl⟩
 case round=>
  obtain⟨k,hk,rfl,rfl⟩:=hrel;by_cases hlt:k<ps.length
  ·obtain⟨b,off,rfl,hc⟩:=hps (by intro h;subst h;simp at hlt)
   obtain⟨hc1,hb,hbl⟩:=hc k hlt;unfold maxLen at hbl;have hfin:=UJ 0xFFFFFFFF ps k hlt;clear hc hps;generalize JY 0xFFFFFFFF (ps.take k)=s0 at*;generalize ps[k]=p at*;obtain⟨pa,ami,pbs⟩:=p;simp only[]at hc1 hb hbl hfin;have ak9:Hid (JY 0xFFFFFFFF (ps.take (k+1))=CL s0 pbs):=hfin;clear hfin
   go_wp2
   go_loop [3,16] (λrest i=>∃(j:Nat),j<=pbs.length∧i=.int .i64 j∧rest=.int .u32 ((CL s0 (pbs.take j)).toNat:Int)) (λ_ i=>pbs.length- (intOf i).toNat)
   case atStart=>exact⟨0,by omega,rfl,rfl⟩
   case round=>
    obtain⟨j,hj,rfl,rfl⟩:=hrel;by_cases hlj:j<pbs.length
    ·obtain⟨pb,po,rfl,hcb⟩:=hb (by intro h;simp[h]at hlj)
     have amj:=hcb j hlj;have hfj:=UI s0 pbs j hlj;clear hcb hb;generalize CL s0 (pbs.take j)=s1 at*;generalize pbs[j]=c at*;have Hfj:Hid (CL s0 (pbs.take (j+1))=uo s1 c):=hfj;clear hfj
     go_wp2
     rw[c32 c,yV]
     go_loop [3,24] (λrest i=>∃(m:Nat) (s:UInt32),m<=8∧i=.int .i64 m∧rest=.int .u32 (s.toNat:Int)∧stn (8-m) s=uo s1 c) (λ_ i=>8- (intOf i).toNat)
     case atStart=>exact⟨0,_,by omega,rfl,rfl,rfl⟩
     case round=>
      obtain⟨m,s,hm,rfl,rfl,hs⟩:=hrel;by_cases hlm:m<8
      ·have HS:Hid (stn (8- (m+1)) (st1 s)=uo s1 c):=(X0 m hlm s).symm.trans hs
       clear hs;by_cases hbit:s &&& 1=1
       ·have ht:=XZ s hbit
        have Hx:Hid (bits .xor .u32 ((s.toNat:Int) /2) 3988292384=((st1 s).toNat:Int)):=acG s hbit;clear hbit
        go_wp2
        go_round
        case rel=>exact⟨m+1,st1 s,by omega,by go_num,by rw[Hx.out],HS.out⟩
        case measure=>simp[intOf];omega
       ·have ht:=UH s hbit
        have Hx:Hid (((s.toNat:Int) /2)=((st1 s).toNat:Int)):=XY s hbit;clear hbit
        go_wp2
        go_round
        case rel=>exact⟨m+1,st1 s,by omega,by go_num,by rw[Hx.out],HS.out⟩
        case measure=>simp[intOf];omega
      ·obtain rfl:m=8:=by omega
       have HS:Hid (s=uo s1 c):=hs;clear hs
       go_wp2
       go_round
       case rel=>exact⟨j+1,by omega,by go_num,by rw[HS.out,Hfj.out]⟩
       case measure=>simp[intOf];omega
    ·obtain rfl:j=pbs.length:=by omega
     go_wp2
     go_round
     case rel=>exact⟨k+1,by omega,by go_num,by rw[List.take_length,ak9.out]⟩
     case measure=>simp[intOf];omega
  ·obtain rfl:k=ps.length:=by omega
   go_wp2
   go_ret;exact⟨acg (acI ps),rfl⟩
end A
namespace A
theorem o6:wy prog 63 5 1 1 (.int .u8 0):=⟨by kernel_rfl,by kernel_rfl,by kernel_rfl,by decide⟩
theorem Ej:wy prog 138 63 1 24 (.slice none 0 0):=⟨by kernel_rfl,by kernel_rfl,by kernel_rfl,by decide⟩
theorem mixed:prog.follows .mixedOrders=true:=by kernel_rfl
theorem PL(a c bs):crc (flat [⟨a,c,bs⟩])=crc bs:=by simp[flat]
theorem Yl(s):(le4 s).map bv=[.int .u8 ((s.toNat:Int) %256),.int .u8 ((s.toNat:Int) /256%256),.int .u8 ((s.toNat:Int) /65536%256),.int .u8 ((s.toNat:Int) /16777216%256)]:=by
 simp_all[A.le4,bv,Nat.shiftRight_eq_div_pow]
theorem acN(w0 a c bs)(hr:Rd w0 a (bs.map bv))(hl:bs.length<=100000):
  Calls prog 187 #[.slice a bs.length c] w0 λe w'=>∃g c',e=.returned (.slice (some ⟨g,0,none⟩) (bs.length+4) c')∧Inv [] w0 w' [bD 5 1 (.slice (some ⟨g,0,none⟩) (bs.length+4) c') (bs.length+4) ((ui bs).map bv)]:=by
 have hI:=Inv.start w0;have hl2:bs.length<=maxLen:=by simp only[maxLen];omega
 have hf:=PL a c bs;have hle:=HD (Yl (crc bs));go_enter func187,ntmps187;go_wp2_with(first|(with_reducible refine kK hI Ej RF ?_;intro bx w hI)|go_at_call 177;refine KR (J4 _ _ [⟨a,c,bs⟩] 1 (xD (hI.rd aC) (hI.LV hr) hl2) (by simp[maxLen])) ?_|(with_reducible refine JZ (c:=bs.length+4) hI o6 RF RF OM MX ?_;intro bx w hI)|(with_reducible refine aA (q:=bs.length) hI RF RF o6 (by intro r';exact aU.here) (hI.LV hr) SI (yX _) MX OM ?_;intro a1 c1 w hI;simp only[Nat.zero_add,List.nil_append]at hI;simp only[Nat.zero_add])|(with_reducible refine CJ hI o6 RF RF RF RF ?_;intro bx w hI)|(with_reducible refine aA (q:=4) hI RF RF o6 (by intro r';exact aU.there aU.here) (hI.rd aC) RF (by simp[Value.oneCell']) MX OM ?_;intro a2 c2 w hI));obtain⟨g,rfl⟩:=gZ (a':=a2) hI aM SI;have hle2:=hle.out;rw[<-hle2,<-List.map_append]at hI;go_ret;exact⟨g,c2,rfl,hI.sub (.cons _ (.cons_cons _ (.cons _ .slnil)))⟩
theorem ak_(t0 t1 t2 t3):bits BinOp.or IntKind.u32 (bits BinOp.or IntKind.u32 (bits BinOp.or IntKind.u32 (t0.toNat:Int) ((t1.toNat:Int)*256)) ((t2.toNat:Int)*65536)) ((t3.toNat:Int)*16777216)=((UX [t0,t1,t2,t3]:Nat):Int):=by
 have h0:=t0.toNat_lt;have h1:=t1.toNat_lt;have h2:=t2.toNat_lt;have h3:=t3.toNat_lt;have o1:t0.toNat ||| (t1.toNat*256)=t0.toNat+t1.toNat*256:=by
  have:=Nat.two_pow_add_eq_or_of_lt (i:=8) (b:=t0.toNat) OM t1.toNat
  grind
 have o2:(t0.toNat+t1.toNat*256) ||| (t2.toNat*65536)=t0.toNat+t1.toNat*256+t2.toNat*65536:=by
  have:=Nat.two_pow_add_eq_or_of_lt (i:=16) (b:=t0.toNat+t1.toNat*256) OM t2.toNat
  grind
 have o3:(t0.toNat+t1.toNat*256+t2.toNat*65536) ||| (t3.toNat*16777216)=t0.toNat+t1.toNat*256+t2.toNat*65536+t3.toNat*16777216:=by
  have:=Nat.two_pow_add_eq_or_of_lt (i:=24) (b:=t0.toNat+t1.toNat*256+t2.toNat*65536) OM t3.toNat
  grind
 have e1:=u32_or_nat t0.toNat (t1.toNat*256) OM OM;have e2:=u32_or_nat (t0.toNat+t1.toNat*256) (t2.toNat*65536) OM OM;have e3:=u32_or_nat (t0.toNat+t1.toNat*256+t2.toNat*65536) (t3.toNat*16777216) OM OM;rw[o1]at e1;rw[o2]at e2
 grind[A.UX]
theorem PM(w0 a c)(bs:List UInt8)(hl:bs.length<4):
  Calls prog 152 #[.slice a bs.length c] w0 λe w'=>e=.returned (.tuple #[.slice none 0 0,.bool false])∧w'=w0:=by
 go_enter func152,ntmps152
 go_wp2
 go_ret2
 exact⟨rfl,rfl⟩
theorem UY(w0 b off c bs t0 t1 t2 t3)(hr:Rd w0 (some ⟨b,off,none⟩) ((bs++[t0,t1,t2,t3]).map bv))(hc:bs.length+4<=c)(hl:bs.length<=100000):
  Calls prog 152 #[.slice (some ⟨b,off,none⟩) (bs.length+4) c] w0 λe w'=>(∃a' c',(crc bs).toNat=UX [t0,t1,t2,t3]∧e=.returned (.tuple #[.slice a' bs.length c',.bool true])∧Inv [] w0 w' [bD 5 1 (.slice a' bs.length c') bs.length (bs.map bv)])∨
   ((crc bs).toNat≠UX [t0,t1,t2,t3]∧e=.returned (.tuple #[.slice none 0 0,.bool false])∧Below w0.heap.size w0 w'):=by
 have hI:=Inv.start w0;have hc1:((bs.length:Int)+4)<=(c:Int):=by omega
 have hc2:(bs.length:Int)<=(c:Int):=by omega
 go_enter func152,ntmps152
 go_wp2
 (replace hI:=hI.drew;refine yw [] mixed KF ?_;(generalize hwd:World.drew _=wd at hI|-;clear hwd))
 (repeat((with_reducible apply dG);rfl;rfl;(focus(intro D w hD hE;go_wp2_with(fail);(try simp only[QN]);exact⟨rfl,rfl,hD⟩));(exact⟨_,rfl⟩)))
 ((with_reducible refine bH ?_);rintro _ rfl;(try simp only[QN]))
 go_wp2
 (replace hI:=hI.drew;refine yw [] mixed KF ?_;(generalize hwd:World.drew _=wd at hI|-;clear hwd))
 have hrw:=hI.LV hr;have hcell:∀j (u:UInt8),(bs++[t0,t1,t2,t3])[j]? =some u->wd.cell? ⟨b,off+j,none⟩=some (.int .u8 (u.toNat:Int)):=by
  intro j u hj;obtain⟨b',off',hab,hc⟩:=hrw j (bv u) (by rw[List.getElem?_map,hj];rfl);cases hab;exact hc
 have k0:=hcell bs.length t0 SI;have k1:=hcell (bs.length+1) t1 SI;have k2:=hcell (bs.length+2) t2 SI;have k3:=hcell (bs.length+3) t3 SI;simp only[<-Nat.add_assoc]at k1 k2 k3;have l0:=t0.toNat_lt;have l1:=t1.toNat_lt;have l2:=t2.toNat_lt;have l3:=t3.toNat_lt;have hrt:Rd w0 (some ⟨b,off,none⟩) (bs.map bv):=by have:=hr.map_take (f:=bv) bs.length;simpa using this
 clear hcell hrw hr
 (repeat(first| ((with_reducible apply dG);rfl;rfl;(focus(intro D w hD hE;go_wp2_with(fail);(try simp only[QN]);exact⟨rfl,rfl,hD⟩));(exact⟨_,rfl⟩)) | ((with_reducible refine O7 RF RF RF ?_);go_wp2_with(fail);refine⟨rfl,rfl,?_⟩;(try simp only[QN]))))
 ((with_reducible refine bH ?_);rintro _ rfl;(try simp only[QN]))
 rw[ak_];have hl2:bs.length<=maxLen:=by simp only[maxLen];omega
 have hf:=PL (some ⟨b,off,none⟩) c bs;clear k0 k1 k2 k3;generalize hqe:UX [t0,t1,t2,t3]=q;have HQ:=HD hqe;clear hqe;by_cases hq:(crc bs).toNat=q
 ·have hq2:(((crc bs).toNat:Int) != (q:Int))=false:=by simp[hq]
  have HQ2:=HD hq;clear hq;go_wp2_with(first|(with_reducible refine kK hI Ej RF ?_;intro bx w hI)|go_at_call 177;refine KR (J4 _ _ [⟨some ⟨b,off,none⟩,c,bs⟩] 1 (xD (hI.rd aC) (hI.LV hrt) hl2) (by simp[maxLen])) ?_|(with_reducible refine oD hI o6 ?_;intro bx w hI)|(with_reducible refine aA (q:=bs.length) hI RF RF o6 (by intro r';exact aU.here) (hI.LV hrt) SI (yX _) MX OM ?_;intro a1 c1 w hI;simp only[Nat.zero_add,List.nil_append]at hI;simp only[Nat.zero_add]))
  go_ret2
  exact .inl ⟨a1,c1,HQ2.out.trans HQ.out.symm,rfl,hI.sub (.cons_cons _ (.cons _ .slnil))⟩
 ·have hq2:(((crc bs).toNat:Int) != (q:Int))=true:=by simp;omega
  have HQ2:=HD hq;clear hq;go_wp2_with(first|(with_reducible refine kK hI Ej RF ?_;intro bx w hI)|go_at_call 177;refine KR (J4 _ _ [⟨some ⟨b,off,none⟩,c,bs⟩] 1 (xD (hI.rd aC) (hI.LV hrt) hl2) (by simp[maxLen])) ?_)
  go_ret2
  exact .inr ⟨λh=>HQ2.out (h.trans HQ.out),rfl,hI.below⟩
def ajq(w0:World)(p:List UInt8)(e:Ending)(w':World):Prop:=
 (∃t a' c',kr p=some t∧e=.returned (.tuple #[.slice a' t.length c',.bool true])∧Inv [] w0 w' [bD 5 1 (.slice a' t.length c') t.length (t.map bv)])∨
 (kr p=none∧e=.returned (.tuple #[.slice none 0 0,.bool false])∧Below w0.heap.size w0 w')
theorem Mj(w0 a c p)(hr:Rd w0 a (p.map bv))(hc:p.length<=c)(hl:p.length<=100000):
  Calls prog 152 #[.slice a p.length c] w0 (ajq w0 p):=by
 by_cases h4:p.length<4
 ·refine(PM w0 a c p h4).mono ?_
  rintro e w' ⟨rfl,rfl⟩;exact .inr ⟨by unfold kr;grind,rfl,Below.refl _ _⟩
 ·obtain⟨bs,t0,t1,t2,t3,rfl⟩:∃bs t0 t1 t2 t3,p=bs++[t0,t1,t2,t3]:=by
   refine⟨p.take (p.length-4),p[p.length-4],p[p.length-3],p[p.length-2],p[p.length-1],?_⟩;apply List.ext_getElem?
   grind
  obtain⟨b,off,rfl,_⟩:∃b off,a=some ⟨b,off,none⟩∧True:=by
   obtain⟨b,off,h,_⟩:=hr bs.length (bv t0) SI
   grind
  simp only[List.length_append,List.length_cons,List.length_nil,Nat.zero_add]at hc hl h4|-;have ht:kr (bs++[t0,t1,t2,t3])=if(crc bs).toNat=UX [t0,t1,t2,t3]then some bs else none:=by
   grind[A.kr,List.drop_left]
  refine(UY w0 b off c bs t0 t1 t2 t3 hr hc OM).mono ?_;rintro e w' (⟨a',c',h,rfl,hI⟩ | ⟨h,rfl,hb⟩)
  ·exact .inl ⟨bs,a',c',by grind,rfl,hI⟩
  ·exact .inr ⟨by grind,rfl,hb⟩
end A
namespace A
end A
section
variable {P:Program}{ops:Array Oper}{Q:Exit->Act->World->Prop}{a:Act}{rest:List Oper}{T:List Nat}{w0 w:World}{m m1:List bT}{dst:Option Tmp}{ty:TypeId}{pos:String}{af:Array Edge}
theorem wN{t e size bytes c:Nat}{kl kc z x y H}(hI:Inv T w0 w m)(hH:w.heap.size=H)(hT:wy P t e size bytes z)(hx:a.eval x=.int kl 0)(hy:a.eval y=.int kc (c:Int))(hb:bytes*c<=281474976710656)(h63:c<=maxLen)(k:∀w',Inv T w0 w' (bD e size (.slice (some ⟨H,0,none⟩) 0 c) 0 []::m)->w'.heap.size=H+1->wpList P ops Q rest (a.put dst (.slice (some ⟨H,0,none⟩) 0 c)) w'):
  wpList P ops Q (⟨dst,.makeSlice t x y,ty,pos,af,none⟩::rest) a w:=
 wpList_plain rfl λK hK=>by
  subst hH;obtain⟨i,hi,hz,rfl,rfl⟩:=hT.info;have h63':(c:Int)<=9223372036854775807:=by
   have h:=h63;simp[maxLen]at h;omega
  have hb':(i.bytes:Int)*(c:Int)<=281474976710656:=by
   omega
  have hr:=run_make (P:=P) w t e i z hT.und hi hz kl kc 0 c OM OM hb' h63';unfold Oper.wp execOp;simp only[hx,hy,Sem.run_bind,hr,Result.andThen_ok,Sem.run_pure];refine hK _ _ (k _ (hI.new (yB (World.grownBy_alloc w _ none)) (World.ownsRow_made w _ c (Nat.zero_le _) h63 (size_madeCells _ _)) ?_ ?_) SI)
  ·intro j hj
   have hj:j=w.heap.size:=by simpa[bD,Value.ownBlock]using hj
   simp_all
  grind[bD]
theorem qE{t e size bytes len:Nat}{z parts cs H}(hI:Inv T w0 w m)(hH:w.heap.size=H)(hT:wy P t e size bytes z)(hb:len*size<=16777216)(hb2:0<len)(hf:Instr.fill (λi=>some (i*size,size)) ((Array.range (len*size)).map (z.cells[· %z.cells.size]!)) (parts.map λ(i,x)=>(i,a.eval x)).toList=some cs.toArray)(hl:cs.length=len*size)(k:∀w',Inv T w0 w' (bD e size (.slice (some ⟨H,0,none⟩) len len) len cs::m)->w'.heap.size=H+1->wpList P ops Q rest (a.put dst (.slice (some ⟨H,0,none⟩) len len)) w'):
  wpList P ops Q (⟨dst,.buildSlice t len parts,ty,pos,af,none⟩::rest) a w:=
 wpList_plain rfl λK hK=>by
  subst hH;obtain⟨i,hi,hz,rfl,rfl⟩:=hT.info;have hpos:=hT.pos;have hne:¬(len*i.size=0):=by
   grind[Nat.mul_eq_zero]
  have hb':¬(len*i.size>2^24):=by omega
  unfold Oper.wp execOp;have hrun:(Instr.buildSlice t len (parts.map λ(i,x)=>(i,a.eval x))).run P w=.ok (.slice (some ⟨w.heap.size,0,none⟩) len len) (w.alloc (.cells cs.toArray e)):=by
   have hzv:(zeroValue e).run P w=.ok z w:=by simp[zeroValue,typeInfo,hi,hz]
   simp only[Instr.buildSlice,Sem.run_bind,run_underlying hT.und,Result.andThen_ok,dX (show(P.info? e).map (·.size)=some i.size by grind),if_neg hb',if_neg hne,Sem.run_pure,hzv,hf];rfl
  simp only[Sem.run_bind,hrun,Result.andThen_ok,Sem.run_pure];refine hK _ _ (k _ ?_ SI);refine hI.new ⟨rfl,rfl,rfl,by simp,λk hk _=>_root_.Go.heap_alloc_old w _ hk⟩ ?_ (by simp[bD,Value.ownBlock]) (by grind[bD]);refine⟨hl,.inr ⟨w.heap.size,len,_,rfl,Nat.zero_le _,heap_alloc_new w _,Nat.le_refl _,?_,?_,?_⟩⟩
  ·simp only[maxLen]
   have:len*1<=len*i.size:=Nat.mul_le_mul_left _ hpos;omega
  all_goals grind
theorem zZ{t e bytes:Nat}{z x0 ao n c H}(hI:Inv T w0 w m)(hH:w.heap.size=H)(hT:wy P t e 1 bytes z)(h0:a.eval x0=.slice ao n c)(k:∀w',Inv T w0 w' (bD e 1 (.slice (some ⟨H,0,none⟩) 1 1) 1 [.slice ao n c]::m)->w'.heap.size=H+1->wpList P ops Q rest (a.put dst (.slice (some ⟨H,0,none⟩) 1 1)) w'):
  wpList P ops Q (⟨dst,.buildSlice t 1 #[(0,x0)],ty,pos,af,none⟩::rest) a w:=
 qE hI hH hT DC DC (by simp[Instr.fill,h0,Value.cells,show Array.range 1=#[0]from by decide]) (by rfl) k
theorem z_{t e bytes:Nat}{z kd x0 x1 v0 v1 H}(hI:Inv T w0 w m)(hH:w.heap.size=H)(hT:wy P t e 1 bytes z)(h0:a.eval x0=.int kd v0)(h1:a.eval x1=.int kd v1)(k:∀w',Inv T w0 w' (bD e 1 (.slice (some ⟨H,0,none⟩) 2 2) 2 [.int kd v0,.int kd v1]::m)->w'.heap.size=H+1->wpList P ops Q rest (a.put dst (.slice (some ⟨H,0,none⟩) 2 2)) w'):
  wpList P ops Q (⟨dst,.buildSlice t 2 #[(0,x0),(1,x1)],ty,pos,af,none⟩::rest) a w:=
 qE hI hH hT DC DC (by simp[Instr.fill,h0,h1,Value.cells,show Array.range 2=#[0,1]from by decide]) (by rfl) k
theorem Aa{t e bytes:Nat}{z kd x0 x1 x2 x3 v0 v1 v2 v3 H}(hI:Inv T w0 w m)(hH:w.heap.size=H)(hT:wy P t e 1 bytes z)(h0:a.eval x0=.int kd v0)(h1:a.eval x1=.int kd v1)(h2:a.eval x2=.int kd v2)(h3:a.eval x3=.int kd v3)(k:∀w',Inv T w0 w' (bD e 1 (.slice (some ⟨H,0,none⟩) 4 4) 4 [.int kd v0,.int kd v1,.int kd v2,.int kd v3]::m)->w'.heap.size=H+1->wpList P ops Q rest (a.put dst (.slice (some ⟨H,0,none⟩) 4 4)) w'):
  wpList P ops Q (⟨dst,.buildSlice t 4 #[(0,x0),(1,x1),(2,x2),(3,x3)],ty,pos,af,none⟩::rest) a w:=
 qE hI hH hT DC DC (by simp[Instr.fill,h0,h1,h2,h3,Value.cells,show Array.range 4=#[0,1,2,3]from by decide]) (by rfl) k
theorem ny{m':bT->List bT}{s x}{t e size bytes n q c0 c:Nat}{z g ao xs news H}(hI:Inv T w0 w m)(hH:w.heap.size=H)(hs:a.eval s=.slice (some ⟨g,0,none⟩) n c0)(hx:a.eval x=.slice ao q c)(hT:wy P t e size bytes z)(hu:∀r',aU (bD e size (.slice (some ⟨g,0,none⟩) n c0) n xs) r' m (m' r'))(hr:Rd w ao news)(hl:news.length=q*size)(h1:∀u∈news,u.oneCell'=true)(hroom:n+q<=c0)(k:∀w',Inv T w0 w' (m' (bD e size (.slice (some ⟨g,0,none⟩) (n+q) c0) (n+q) (xs++news)))->w'.heap.size=H->wpList P ops Q rest (a.put dst (.slice (some ⟨g,0,none⟩) (n+q) c0)) w'):
  wpList P ops Q (⟨dst,.call {callee:=.builtin .append,args:= #[s,x],argTypes:= #[t,t]},ty,pos,af,none⟩::rest) a w:=
 wpList_plain rfl λK hK=>by
  subst hH;have hown:w.ownsRow 0 e size (.slice (some ⟨g,0,none⟩) n c0) n xs:=by
   obtain⟨m1,m2,rfl,_⟩:=(hu (bD e size (.slice (some ⟨g,0,none⟩) n c0) n xs)).split;exact hI.sat (bD e size (.slice (some ⟨g,0,none⟩) n c0) n xs) SI
  obtain⟨i,hi,hz,rfl,rfl⟩:=hT.info;have fin:∀w',(Builtin.append_ #[t,t] ty #[.slice (some ⟨g,0,none⟩) n c0,.slice ao q c]).run P w=.ok (.slice (some ⟨g,0,none⟩) (n+q) c0) w'->w'.ownsRow 0 e i.size (.slice (some ⟨g,0,none⟩) (n+q) c0) (n+q) (xs++news)->Step [g] w w'->w'.heap.size=w.heap.size->
    Oper.wp P ⟨dst,.call {callee:=.builtin .append,args:= #[s,x],argTypes:= #[t,t]},ty,pos,af,none⟩ a w K Q:=by
   intro w' hrun ho hst hsz;unfold Oper.wp execOp;simp only[resolve,invoke,builtin,Sem.run_bind,Sem.run_pure,Result.andThen_ok,List.map_toArray,List.map_cons,List.map_nil,hs,hx,hrun];refine hK _ _ (k w' (hI.upd (hu _) (hst.mono (by simp[bD,Value.ownBlock])) ho (λj hj=> .inl (by simpa[bD,Value.ownBlock]using hj)) (by grind[bD])) hsz)
  by_cases hq:q=0
  ·subst hq
   refine fin w ?_ (by grind) (.refl _ _) rfl;cases ao with
   |none=>exact run_append_nothing w t t ty e i hT.und hi (some ⟨g,0,none⟩) n c0 hroom _ (Src.ofNil w hT.und c)
   |some ad=>exact run_append_nothing w t t ty e i hT.und hi (some ⟨g,0,none⟩) n c0 hroom _ (Src.ofSlice w hT.und ad 0 c [] SI (λ_ _ h=>by grind) (λ_ h=>by grind))
  ·obtain⟨amd,⟨hv,_⟩ | ⟨g',cap,cur,hv,hbg,hg,hnc,hcm,hcs,htake⟩⟩:=hown
   ·cases hv
   cases hv;have hpos:=hT.pos;cases ao with
   |none=>
    have hn:news=[]:=by
     cases news with
     |nil=>rfl
     |cons u l=>obtain⟨_,_,h,_⟩:=hr 0 u rfl;cases h
    grind[Nat.mul_eq_zero]
   |some ad=>
    have hnews:∀j u,news[j]? =some u->w.cell? (ad.add j)=some u:=by
     intro j u hj;obtain⟨b,off,hab,hc⟩:=hr j u hj
     grind[kP]
    have hfit:n*i.size+news.length<=cur.size:=by rw[hl,hcs,<-Nat.add_mul];simp_all[Nat.mul_le_mul_right]
    have hrr:=run_append_room (P:=P) w t ty e i hT.und hi g n c0 cur hg ad q c news hl hnews h1 hroom hfit;have hlen:(xs++news).length=(n+q)*i.size:=by grind
    refine fin _ hrr ⟨hlen,.inr ⟨g,c0,_,rfl,hbg,setRow_heap w g cur _ e _ hg,hroom,hcm,?_,?_⟩⟩ ⟨rfl,rfl,rfl,by simp,λk _ hk=>setRow_other w g k _ (λe=>hk (by simp[e]))⟩ SI
    all_goals grind
end
def mix(zs:List Int)(bs:List Bool):List Value:=zs.map (Value.int .i64)++bs.map Value.bool
def yD(b:Nat)(e:TypeId)(zs:List Int)(bs:List Bool):bT:=blk b e (mix zs bs)
def gb(bs:List Bool)(i:Nat):Bool:=bs.getD i false
theorem Af(zs bs):(mix zs bs).length=zs.length+bs.length:=by simp[mix]
theorem ac0(zs bs off n)(h:off+n<=zs.length):((mix zs bs).drop off).take n=(sub zs off n).map (Value.int .i64):=by
 grind[mix,sub,List.map_drop,List.map_take]
theorem ac1(zs bs i)(h:i<zs.length):(mix zs bs)[i]? =some (.int .i64 (gi zs i)):=by
 grind[mix,gi]
theorem YF(zs bs i)(h:i<bs.length):(mix zs bs)[zs.length+i]? =some (.bool (gb bs i)):=by
 grind[mix,gb]
theorem ac2(zs vs bs off)(h:off+vs.length<=zs.length):splice (mix zs bs) off (vs.map (Value.int .i64))=mix (dK zs off vs) bs:=by
 grind[splice,mix,dK,List.map_take,List.map_drop]
theorem ac3(zs bs i v):(mix zs bs).set (zs.length+i) (.bool v)=mix zs (bs.set i v):=by
 simp_all[mix]
theorem agr(bs i j v):gb (bs.set i v) j=if i=j∧j<bs.length then v else gb bs j:=by
 grind[gb]
section
variable {P:Program}{ops:Array Oper}{Q:Exit->Act->World->Prop}{a:Act}{rest:List Oper}{T:List Nat}{w0 w:World}{m m':List bT}{dst:Option Tmp}{ty:TypeId}{pos:String}{af:Array Edge}
theorem bL{x}{t n b off:Nat}{e zs bs}(hI:Inv T w0 w m)(hx:a.eval x=.pointer (some ⟨b,off,none⟩))(hm:yD b e zs bs∈m)(hT:gm P t n)(hl:off+n<=zs.length)(k:wpList P ops Q rest (a.put dst (ia (sub zs off n))) w):wpList P ops Q (⟨dst,.load t x,ty,pos,af,none⟩::rest) a w:=by
 refine dh hI hx hm hT (by grind[Af]) ?_;rw[ac0 _ _ _ _ hl];exact k
theorem gL{x}{t b off:Nat}{e zs bs}(hI:Inv T w0 w m)(hx:a.eval x=.pointer (some ⟨b,off,none⟩))(hm:yD b e zs bs∈m)(hT:iY P t)(hl:off<zs.length)(k:wpList P ops Q rest (a.put dst (.int .i64 (gi zs off))) w):wpList P ops Q (⟨dst,.load t x,ty,pos,af,none⟩::rest) a w:=
 aW hI hx hm hT (ac1 zs bs off hl) k
theorem wP{x}{t b off j:Nat}{e zs bs}(hI:Inv T w0 w m)(hx:a.eval x=.pointer (some ⟨b,off,none⟩))(hm:yD b e zs bs∈m)(hT:iY P t)(hl:off=zs.length+j)(hj:j<bs.length)(k:wpList P ops Q rest (a.put dst (.bool (gb bs j))) w):wpList P ops Q (⟨dst,.load t x,ty,pos,af,none⟩::rest) a w:=
 aW hI hx hm hT (by grind[YF]) k
theorem Bq{x y}{t n b off:Nat}{e zs vs bs}(hI:Inv T w0 w m)(hx:a.eval x=.pointer (some ⟨b,off,none⟩))(hv:a.eval y=ia vs)(hu:aU (yD b e zs bs) (yD b e (dK zs off vs) bs) m m')(hT:gm P t n)(hl:vs.length=n)(hoff:off+n<=zs.length)(k:∀w',Inv T w0 w' m'->wpList P ops Q rest (a.put dst undef) w'):wpList P ops Q (⟨dst,.store t x y,ty,pos,af,none⟩::rest) a w:=
 aR hI hx (vs:=vs.map (Value.int .i64)) (by rw[hv];rfl) (by rw[ac2 zs vs bs off OM];exact hu) hT.size (by grind) (by grind[Af]) (LK vs) k
theorem qF{x y}{t b off j:Nat}{e zs bs v}(hI:Inv T w0 w m)(hx:a.eval x=.pointer (some ⟨b,off,none⟩))(hv:a.eval y=.bool v)(hl:off=zs.length+j)(hu:aU (yD b e zs bs) (yD b e zs (bs.set j v)) m m')(hT:iY P t)(hj:j<bs.length)(k:∀w',Inv T w0 w' m'->wpList P ops Q rest (a.put dst undef) w'):wpList P ops Q (⟨dst,.store t x y,ty,pos,af,none⟩::rest) a w:=
 iZ hI hx hv rfl rfl (by rw[hl,ac3];exact hu) hT (by grind[Af]) k
theorem U7(zs bs i v)(h:i<zs.length):(mix zs bs).set i (.int .i64 v)=mix (zs.set i v) bs:=by
 grind[mix,List.map_set]
theorem l6{x y}{t b off:Nat}{e zs bs v}(hI:Inv T w0 w m)(hx:a.eval x=.pointer (some ⟨b,off,none⟩))(hv:a.eval y=.int .i64 v)(hu:aU (yD b e zs bs) (yD b e (zs.set off v) bs) m m')(hT:iY P t)(hj:off<zs.length)(k:∀w',Inv T w0 w' m'->wpList P ops Q rest (a.put dst undef) w'):wpList P ops Q (⟨dst,.store t x y,ty,pos,af,none⟩::rest) a w:=
 iZ hI hx hv rfl rfl (by rw[U7 _ _ _ _ hj];exact hu) hT (by grind[Af]) k
def bb(b:Nat)(e:TypeId)(bs:List Bool):bT:=blk b e (bs.map Value.bool)
theorem EK{x}{t b off:Nat}{e bs}(hI:Inv T w0 w m)(hx:a.eval x=.pointer (some ⟨b,off,none⟩))(hm:bb b e bs∈m)(hT:iY P t)(hl:off<bs.length)(k:wpList P ops Q rest (a.put dst (.bool (gb bs off))) w):wpList P ops Q (⟨dst,.load t x,ty,pos,af,none⟩::rest) a w:=
 aW hI hx hm hT (v:=.bool (gb bs off)) (by simp[hl,gb]) k
theorem CP{x y}{t b off:Nat}{e bs v}(hI:Inv T w0 w m)(hx:a.eval x=.pointer (some ⟨b,off,none⟩))(hv:a.eval y=.bool v)(hu:aU (bb b e bs) (bb b e (bs.set off v)) m m')(hT:iY P t)(hj:off<bs.length)(k:∀w',Inv T w0 w' m'->wpList P ops Q rest (a.put dst undef) w'):wpList P ops Q (⟨dst,.store t x y,ty,pos,af,none⟩::rest) a w:=
 iZ hI hx hv rfl rfl (by rw[<-List.map_set];exact hu) hT (by grind) k
def YG(P:Program)(t k:Nat):Prop:=(P.info? t).map (·.zero)=some (some (.agg ((List.replicate k false).map Value.bool).toArray))
theorem CQ{t q}(hI:Inv T w0 w m)(hz:YG P t q)(k:∀b w',Inv T w0 w' (bb b t (List.replicate q false)::m)->wpList P ops Q rest (a.put dst (.pointer (some ⟨b,0,none⟩))) w'):wpList P ops Q (⟨dst,.alloc t,ty,pos,af,none⟩::rest) a w:=
 aN hI hz rfl k
theorem Ag{w b e zs bs}(hb:w.heap[b]? =some (.cells (mix zs bs).toArray e (0,0))):Inv [b] w w [yD b e zs bs]:=Inv.take hb
theorem Inv.mbk(h:Inv T w0 w m){b e zs bs}(hm:yD b e zs bs∈m):w.heap[b]? =some (.cells (mix zs bs).toArray e (0,0)):=h.blk hm
theorem Inv.ibk(h:Inv T w0 w m){b e zs}(hm:ib b e zs∈m):w.heap[b]? =some (.cells (zs.map (Value.int .i64)).toArray e (0,0)):=h.blk hm
def afl(P:Program)(t n k:Nat):Prop:=(P.info? t).map (·.zero)=some (some (.agg (mix (au n) (List.replicate k false)).toArray))
end
section
variable {P:Program}{a:Act}{w:World}{dst:Option Tmp}{ty:TypeId}{pos:String}{af:Array Edge}
theorem Qo{t n:Nat}{ps z zc}(l)(hz:(P.info? t).map (·.zero)=some (some z))(hzc:z.cells=zc.toArray)(hn:zc.length=n)(hS:JK P t)(hp:DU P a t n ps l):
  gu P ⟨dst,.build t ps.toArray,ty,pos,af,none⟩ a w (.agg (Hy zc l).toArray):=by
 obtain⟨fs,hu,hK⟩:=hS;obtain⟨inf,JL,hz'⟩:=Option.map_eq_some_iff.1 hz;have hzv:(zeroValue t).run P w=.ok z w:=by simp[zeroValue,typeInfo,JL,hz']
 have hr:=mZ (P:=P) fs.toList (List.all_eq_true.1 hK) w;unfold gu execOp;simp only[List.map_toArray,Instr.build,Sem.run_bind,hzv,Result.andThen_ok,run_underlying hu];rw[<-Array.toArray_toList (xs:=fs),List.mapM_toArray];simp only[Sem.run_map,hr,hzc];have hf:=DV (a:=a) hu ps l zc hn hp;simp[hf]
theorem ZW{t n:Nat}{ps l}[hz:yn P t n][hS:uf P t](hp:yP P a t n ps l):gu P ⟨dst,.build t ps.toArray,ty,pos,af,none⟩ a w (ia (ay (au n) l)):=by
 have h:=Qo (dst:=dst) (ty:=ty) (pos:=pos) (af:=af) (w:=w) (z:=ia (au n)) (zc:=(au n).map (Value.int .i64)) _ hz.out rfl (by grind[ag]) hS.out hp.toC
 rwa [yQ]at h
theorem ak2{t n i1 o1 q1:Nat}{x1 v1}[hz:yn P t n][hS:uf P t][f1:eD P t i1 o1 q1]
  (h1:kU (a.eval x1) v1:=by exact IS) (l1:v1.length=q1:=by exact LA) (b1:o1+q1<=n:=by exact WD):gu P ⟨dst,.build t #[(i1,x1)],ty,pos,af,none⟩ a w (ia (ay (au n) [(o1,v1)])):=
 ZW (ps:=[(i1,x1)]) (l:=[(o1,v1)]) (.cons h1 l1 b1 (.nil))
theorem acz{t n i1 i2 o1 o2 q1 q2:Nat}{x1 x2 v1 v2}[hz:yn P t n][hS:uf P t][f1:eD P t i1 o1 q1][f2:eD P t i2 o2 q2]
  (h1:kU (a.eval x1) v1:=by exact IS) (l1:v1.length=q1:=by exact LA) (b1:o1+q1<=n:=by exact WD)
  (h2:kU (a.eval x2) v2:=by exact IS) (l2:v2.length=q2:=by exact LA) (b2:o2+q2<=n:=by exact WD):gu P ⟨dst,.build t #[(i1,x1),(i2,x2)],ty,pos,af,none⟩ a w (ia (ay (au n) [(o1,v1),(o2,v2)])):=
 ZW (ps:=[(i1,x1),(i2,x2)]) (l:=[(o1,v1),(o2,v2)]) (.cons h1 l1 b1 (.cons h2 l2 b2 (.nil)))
theorem aiX{t n i1 i2 i3 o1 o2 o3 q1 q2 q3:Nat}{x1 x2 x3 v1 v2 v3}[hz:yn P t n][hS:uf P t][f1:eD P t i1 o1 q1][f2:eD P t i2 o2 q2][f3:eD P t i3 o3 q3]
  (h1:kU (a.eval x1) v1:=by exact IS) (l1:v1.length=q1:=by exact LA) (b1:o1+q1<=n:=by exact WD)
  (h2:kU (a.eval x2) v2:=by exact IS) (l2:v2.length=q2:=by exact LA) (b2:o2+q2<=n:=by exact WD)
  (h3:kU (a.eval x3) v3:=by exact IS) (l3:v3.length=q3:=by exact LA) (b3:o3+q3<=n:=by exact WD):gu P ⟨dst,.build t #[(i1,x1),(i2,x2),(i3,x3)],ty,pos,af,none⟩ a w (ia (ay (au n) [(o1,v1),(o2,v2),(o3,v3)])):=
 ZW (ps:=[(i1,x1),(i2,x2),(i3,x3)]) (l:=[(o1,v1),(o2,v2),(o3,v3)]) (.cons h1 l1 b1 (.cons h2 l2 b2 (.cons h3 l3 b3 (.nil))))
theorem ak3{t n i1 i2 i3 i4 o1 o2 o3 o4 q1 q2 q3 q4:Nat}{x1 x2 x3 x4 v1 v2 v3 v4}[hz:yn P t n][hS:uf P t][f1:eD P t i1 o1 q1][f2:eD P t i2 o2 q2][f3:eD P t i3 o3 q3][f4:eD P t i4 o4 q4]
  (h1:kU (a.eval x1) v1:=by exact IS) (l1:v1.length=q1:=by exact LA) (b1:o1+q1<=n:=by exact WD)
  (h2:kU (a.eval x2) v2:=by exact IS) (l2:v2.length=q2:=by exact LA) (b2:o2+q2<=n:=by exact WD)
  (h3:kU (a.eval x3) v3:=by exact IS) (l3:v3.length=q3:=by exact LA) (b3:o3+q3<=n:=by exact WD)
  (h4:kU (a.eval x4) v4:=by exact IS) (l4:v4.length=q4:=by exact LA) (b4:o4+q4<=n:=by exact WD):gu P ⟨dst,.build t #[(i1,x1),(i2,x2),(i3,x3),(i4,x4)],ty,pos,af,none⟩ a w (ia (ay (au n) [(o1,v1),(o2,v2),(o3,v3),(o4,v4)])):=
 ZW (ps:=[(i1,x1),(i2,x2),(i3,x3),(i4,x4)]) (l:=[(o1,v1),(o2,v2),(o3,v3),(o4,v4)]) (.cons h1 l1 b1 (.cons h2 l2 b2 (.cons h3 l3 b3 (.cons h4 l4 b4 (.nil)))))
theorem ak4{t n i1 i2 i3 i4 i5 o1 o2 o3 o4 o5 q1 q2 q3 q4 q5:Nat}{x1 x2 x3 x4 x5 v1 v2 v3 v4 v5}[hz:yn P t n][hS:uf P t][f1:eD P t i1 o1 q1][f2:eD P t i2 o2 q2][f3:eD P t i3 o3 q3][f4:eD P t i4 o4 q4][f5:eD P t i5 o5 q5]
  (h1:kU (a.eval x1) v1:=by exact IS) (l1:v1.length=q1:=by exact LA) (b1:o1+q1<=n:=by exact WD)
  (h2:kU (a.eval x2) v2:=by exact IS) (l2:v2.length=q2:=by exact LA) (b2:o2+q2<=n:=by exact WD)
  (h3:kU (a.eval x3) v3:=by exact IS) (l3:v3.length=q3:=by exact LA) (b3:o3+q3<=n:=by exact WD)
  (h4:kU (a.eval x4) v4:=by exact IS) (l4:v4.length=q4:=by exact LA) (b4:o4+q4<=n:=by exact WD)
  (h5:kU (a.eval x5) v5:=by exact IS) (l5:v5.length=q5:=by exact LA) (b5:o5+q5<=n:=by exact WD):gu P ⟨dst,.build t #[(i1,x1),(i2,x2),(i3,x3),(i4,x4),(i5,x5)],ty,pos,af,none⟩ a w (ia (ay (au n) [(o1,v1),(o2,v2),(o3,v3),(o4,v4),(o5,v5)])):=
 ZW (ps:=[(i1,x1),(i2,x2),(i3,x3),(i4,x4),(i5,x5)]) (l:=[(o1,v1),(o2,v2),(o3,v3),(o4,v4),(o5,v5)]) (.cons h1 l1 b1 (.cons h2 l2 b2 (.cons h3 l3 b3 (.cons h4 l4 b4 (.cons h5 l5 b5 (.nil))))))
end
def nor:bT:=⟨[],λ_=>True,λ_ _ _ h=>h⟩
theorem Inv.nor{T w0 w m}(h:Inv T w0 w m):Inv T w0 w (Go.Proofs.YtdakkaapokhnnaaGreatDoor.nor::m):=
 h.turn (λhs y hy=>by
  rcases List.mem_cons.1 hy with rfl|hy
  ·trivial
  grind) (by simp[owned,Go.Proofs.YtdakkaapokhnnaaGreatDoor.nor])
section
variable {P:Program}{ops:Array Oper}{T:List Nat}{w0:World}{m:List bT}
def sZ(P:Program)(ops:Array Oper)(T:List Nat)(w0:World)(m:List bT)(o:Oper)(v:Value)(a:Act):Prop:=
 (Region.wanted o (yielded ops a.tmps)=true∧∀ex w,Inv T w0 w (ex::m)->o.wp P a w (λa' w'=>a'=a.put o.dst v∧Inv T w0 w' (ex::m)) (λ_ _ _=>False))∨(Region.wanted o (yielded ops a.tmps)=false∧v=undef)
theorem QH{a b:Act}{d u v}(h:a.put d u=a.put d v)(hs:b.tmps.size=a.tmps.size):b.put d u=b.put d v:=by
 cases d with
 |none=>rfl
 |some d=>
  have h1:=congrArg (λx:Act=>x.tmps[d]?) h;simp only[Act.put,Array.getElem?_setIfInBounds_self]at h1;simp only[Act.put]
  grind
theorem Nv(a:Act)(d u):(a.put d u).tmps.size=a.tmps.size:=by cases d<;>simp[Act.put]
theorem V5{o v a b w}{E:World->Prop}(he:execOp b.eval o=execOp a.eval o)(hsz:b.tmps.size=a.tmps.size)(h:o.wp P a w (λa' w'=>a'=a.put o.dst v∧E w') (λ_ _ _=>False)):
  o.wp P b w (λa' w'=>a'=b.put o.dst v∧E w') (λ_ _ _=>False):=by
 unfold Oper.wp at h|-;rw[he];generalize(execOp a.eval o).run P w=r at h|-;have key:∀x w',a.put o.dst x=a.put o.dst v∧E w'->b.put o.dst x=b.put o.dst v∧E w':=λx w' hh=>⟨QH hh.1 hsz,hh.2⟩
 cases r with
 |ok n w'=>
  cases n<;>simp only[Oper.upon]at h|-
  case defer df=>
   have h1:=congrArg (λx:Act=>x.defers.length) h.1;cases hd:o.dst<;>simp[Act.put,hd]at h1
  all_goals grind[Go.Calls.mono,Go.Rows.mono]
 |halt x w'=>cases x<;>simp only[Oper.upon]at h|-
theorem sZ.to{o v a b}(he:execOp b.eval o=execOp a.eval o)(hsz:b.tmps.size=a.tmps.size)(hw:Region.wanted o (yielded ops b.tmps)=Region.wanted o (yielded ops a.tmps))(h:sZ P ops T w0 m o v a):sZ P ops T w0 m o v b:=by
 rcases h with⟨hw0,h⟩ | ⟨hw0,rfl⟩
 ·exact .inl ⟨hw.trans hw0,λex w hI=>V5 he hsz (h ex w hI)⟩
 ·exact .inr ⟨hw.trans hw0,rfl⟩
theorem sZ.put{o oj:Oper}{u v a}(hap:oj.apart ops o=true)(hs:∀cs b,o.op≠ .select cs b)(h:sZ P ops T w0 m o v a):sZ P ops T w0 m o v (a.put oj.dst u):=by
 obtain⟨h1,h2,h3⟩:=Oper.apart_spec hap;exact h.to (execOp_put o hs a oj.dst u h1) (Nv _ _ _) (wanted_put o a oj.dst u h1)
theorem sZ.back{o oj:Oper}{u v a}(hap:oj.apart ops o=true)(hs:∀cs b,o.op≠ .select cs b)(h:sZ P ops T w0 m o v (a.put oj.dst u)):sZ P ops T w0 m o v a:=by
 obtain⟨h1,h2,h3⟩:=Oper.apart_spec hap;exact h.to (execOp_put o hs a oj.dst u h1).symm (Nv _ _ _).symm (wanted_put o a oj.dst u h1).symm
theorem sZ.op{Q i o v a w ex K}(ho:ops[i]? =some o)(h:sZ P ops T w0 m o v a)(hI:Inv T w0 w (ex::m))(hK:∀w',Inv T w0 w' (ex::m)->K (a.put o.dst v) w'):wpOp P ops Q i K a w:=by
 unfold wpOp;rw[ho];simp only;rcases h with⟨hw,h⟩ | ⟨hw,rfl⟩
 ·rw[if_pos hw]
  refine .inl ?_;have h:=h ex w hI;unfold Oper.wp at h|-;generalize(execOp a.eval o).run P w=r at h|-;cases r with
  |ok n w'=>
   cases n<;>simp only[Oper.upon]at h|-
   case value x=>grind
   case skip=>grind
   case defer df=>grind
   case enter f args=>
    refine h.mono λe w'' hh=>?_
    cases e with
    |returned x=>grind
    |panicked c=>grind
    |outgrown=>obtain⟨_,_,hh⟩:=hh;grind
   grind[Go.Rows.mono]
  |halt x w'=>cases x<;>simp only[Oper.upon]at h|-
 grind
def rV(P:Program)(ops:Array Oper)(T:List Nat)(w0:World)(m:List bT)(E:List Nat)(Fin:Act->Prop):List Nat->Act->Prop
 | [],a=>Fin a
 |i::is,a=>∃o v,ops[i]? =some o∧(sZ P ops T w0 m o v a∧(E.elem i=true->GM (λ_=>True) P ops o v a))∧rV P ops T w0 m E Fin is (a.put o.dst v)
theorem GM.put{R}{o oj:Oper}{u v a}(hap:oj.apart ops o=true)(hs:∀cs b,o.op≠ .select cs b)(h:GM R P ops o v a):GM R P ops o v (a.put oj.dst u):=by
 obtain⟨h1,h2,h3⟩:=Oper.apart_spec hap;exact h.same (execOp_put o hs a oj.dst u h1) (wanted_put o a oj.dst u h1)
theorem GM.back{R}{o oj:Oper}{u v a}(hap:oj.apart ops o=true)(hs:∀cs b,o.op≠ .select cs b)(h:GM R P ops o v (a.put oj.dst u)):GM R P ops o v a:=by
 obtain⟨h1,h2,h3⟩:=Oper.apart_spec hap;exact h.same (execOp_put o hs a oj.dst u h1).symm (wanted_put o a oj.dst u h1).symm
def aak(ops:Array Oper)(i j:Nat):Bool:=match ops[i]?,ops[j]? with
 |some oi,some oj=>oi.apart ops oj&&oj.apart ops oi
 |_,_=>false
def Aw(ops:Array Oper)(i j:Nat):Bool:= !BQ ops ops.size i j&&(BQ ops ops.size j i||aak ops i j)
def nU(ops:Array Oper):List Nat->Bool
 | []=>true
 |i::is=>is.all (Aw ops i)&&nU ops is
theorem tN:∀ {pre post i},nU ops (pre++i::post)=true->(∀j∈pre,Aw ops j i=true)∧nU ops (pre++post)=true
 | [],post,i,h=>by
  simp_all[nU]
 |j::pre,post,i,h=>by
  simp only[List.cons_append,nU,Bool.and_eq_true,List.all_eq_true,List.mem_append,List.mem_cons]at h|-;obtain⟨h1,h2⟩:=tN h.2
  grind
theorem FX(hsel:∀(j:Nat) o cs b,ops[j]? =some o->o.op≠ .select cs b){E Fin i post}:∀pre a,(∀j∈pre,BQ ops ops.size i j=false)->(∀j∈pre,Aw ops j i=true)->rV P ops T w0 m E Fin (pre++i::post) a->
  ∃o v,ops[i]? =some o∧(sZ P ops T w0 m o v a∧(E.elem i=true->GM (λ_=>True) P ops o v a))∧rV P ops T w0 m E Fin (pre++post) (a.put o.dst v):=by
 intro pre
 induction pre with
 |nil=>intro a _ _ h;exact h
 |cons j pre ih=>
  intro a hna hpo h;obtain⟨oj,vj,hoj,hyj,hj⟩:=h;have hp:=hpo j SI;simp only[Aw,hna j SI,Bool.false_or,Bool.and_eq_true,Bool.not_eq_true']at hp;have hap:=hp.2;obtain⟨oi,vi,hoi,hyi,hi⟩:=ih (a.put oj.dst vj) (λk hk=>hna k (by simp[hk])) (λk hk=>hpo k (by simp[hk])) hj;unfold aak at hap;rw[hoj,hoi]at hap;simp only[Bool.and_eq_true]at hap;have hsi:=λcs b=>hsel i oi cs b hoi
  have hsj:=λcs b=>hsel j oj cs b hoj
  obtain⟨h1,h2,h3⟩:=Oper.apart_spec hap.1;refine⟨oi,vi,hoi,⟨hyi.1.back hap.1 hsi,λhe=>(hyi.2 he).back hap.1 hsi⟩,oj,vj,hoj,⟨hyj.1.put hap.2 hsj,λhe=>(hyj.2 he).put hap.2 hsj⟩,?_⟩;rw[<-Act.put_comm a vj vi h2];exact hi
theorem Nw(Xd:∀i o,ops[i]? =some o->∀e∈o.after,Region.binds .any e=true->e.on<i){listed}(hsz:listed.size=ops.size):∀n i,i<=n->i<ops.size->listed.getD i false=false->Region.ready .any ops listed≠[]:=by
 intro n
 induction n with
 |zero=>
  intro i hin hi hl h0;have:i∈Region.ready .any ops listed:=by
   rw[mem_ready];refine⟨by grind,ops[i],by simp[hi],λe he hb=>?_⟩;have:=Xd i ops[i] (by simp[hi]) e OM hb;omega
  grind
 |succ n ih=>
  intro i hin hi hl h0;by_cases hall:∀e∈ops[i].after,Region.binds .any e=true->listed.getD e.on false=true
  ·have:i∈Region.ready .any ops listed:=by
    rw[mem_ready]
    simp_all
   grind
  ·obtain⟨e,he,hb,hle⟩:∃e∈ops[i].after,Region.binds .any e=true∧listed.getD e.on false=false:=by
    grind
   have hlt:=Xd i ops[i] (by simp[hi]) e he hb
   grind
theorem xe{L i o}(hc:Closed ops L)(hoi:ops[i]? =some o)(hall:∀e∈o.after,Region.binds .any e=true->L.getD e.on false=true):Closed ops (L.setIfInBounds i true):=
 ⟨by simp[hc.1],λj oj hj hlj e he hb=>by
  by_cases hij:i=j
  ·grind[Go.getD_set_true]
  ·rw[getD_set_ne false hij]at hlj
   exact getD_set_true (hc.2 j oj hj hlj e he hb)⟩
theorem zn{L:Array Bool}{i k}(hc:L.size=ops.size)(hi:i<ops.size):(k<ops.size∧(L.setIfInBounds i true).getD k false=false)↔(k≠i∧k<ops.size∧L.getD k false=false):=by
 by_cases hik:i=k
 ·simp_all
 ·rw[getD_set_ne false hik]
  grind
theorem Cr{S F G}:∀ {l l'},l'.Sublist l->jU ops S F G l=true->jU ops S F G l'=true:=by
 intro l l' hs
 induction hs with
 |slnil=>grind
 |cons a _ ih=>
  simp_all[jU]
 |cons_cons a hsub ih=>
  intro h;simp only[jU,Bool.and_eq_true,List.all_eq_true]at h|-
  grind
theorem Ny{Q S F G L2 E}{A:Nat}{oA:Oper}{vb:Nat->Value}{rb:Nat->bT}{dA b}(hdA:oA.dst=dA)(hsel:∀(j:Nat) o cs b,ops[j]? =some o->o.op≠ .select cs b)(hES:∀i∈E,S.elem i=false){w}(hI:Inv T w0 w (rb b::m)):∀is a,(∀i∈is,i∈E)->(∀i∈is,∀o,ops[i]? =some o->oA.apart ops o=true)->
  rV P ops T w0 m E (λa'=>∀b w,Inv T w0 w (rb b::m)->kV P ops S F G (λ_=>True) Q L2 (a'.put dA (vb b)) w) is a->kV P ops S F G (λ_=>True) Q (is++L2) (a.put dA (vb b)) w
 | [],a,_,_,h=>h b w hI
 |i::is,a,hE,hA,h=>by
  obtain⟨o,v,ho,hy,hs⟩:=h;have hap:=hA i SI o ho;have hiE:=hE i SI;obtain⟨h1,h2,h3⟩:=Oper.apart_spec hap;refine⟨o,ho,.inr ⟨hES i hiE,λ_=>trivial,v,?_,?_⟩⟩
  ·have hy2:GM (λ_=>True) P ops o v (a.put dA (vb b)):=by grind[GM.put]
   rcases hy2 with⟨hw,hy2⟩ |hy2
   ·exact .inl ⟨hw,λx _=>hy2 x trivial⟩
   ·exact .inr hy2
  ·have e:(a.put dA (vb b)).put o.dst v=(a.put o.dst v).put dA (vb b):=by grind[Go.Act.put_comm]
   rw[e];exact Ny (A:=A) hdA hsel hES hI is _ (λk hk=>hE k (by simp[hk])) (λk hk=>hA k (by simp[hk])) hs
section
variable {Q:Exit->Act->World->Prop}{S F G L2 E L1:List Nat}{A:Nat}{oA:Oper}{vb:Nat->Value}{rb:Nat->bT}
 (hsel:∀(j:Nat) (o:Oper) cs b,ops[j]? =some o->o.op≠ .select cs b) (Xd:∀i o,ops[i]? =some o->∀e∈o.after,Region.binds .any e=true->e.on<i)
include hsel Xd
theorem QJ{dA}(hA:∀i o,ops[i]? =some o->i∉L2->i≠A->oA.apart ops o=true)(hdA:oA.dst=dA)(hES:∀i∈E,S.elem i=false)(hp2:jU ops S F G (L1.filter E.elem++L2)=true){b}:∀fuel listed is a w,(is++L2).length=fuel->Closed ops listed->(is++L2).Nodup->
  (∀i,i∈is++L2↔(i<ops.size∧listed.getD i false=false))->nU ops is=true->(∀j∈L2,∀i∈is,E.elem i=true∨BQ ops ops.size j i=true)->A∉is++L2->is.Sublist L1->Inv T w0 w (rb b::m)->
  rV P ops T w0 m E (λa'=>∀b w,Inv T w0 w (rb b::m)->kV P ops S F G (λ_=>True) Q L2 (a'.put dA (vb b)) w) is a->wpAny P .any ops Q fuel listed (a.put dA (vb b)) w:=by
 intro fuel
 induction fuel with
 |zero=>
  intro listed is a w hl hc hnd hm _ _ _ _ hI h;obtain⟨h1,h2⟩:is=[]∧L2=[]:=by
   grind
  subst h1;exact DJ hsel Xd 0 listed L2 _ w (by grind) hc (by grind) (λi=>by grind) (Cr (List.sublist_append_right _ _) hp2) (h b w hI)
 |succ fuel ih=>
  intro listed is a w hl hc hnd hm hsp h2 hAn hsub hI h;by_cases ajT:∀i∈is,E.elem i=true
  ·have hfil:is.filter E.elem=is:=List.filter_eq_self.2 ajT
   have hps:jU ops S F G (is++L2)=true:=by
    refine Cr (List.Sublist.append ?_ (List.Sublist.refl _)) hp2
    grind
   refine DJ hsel Xd _ listed (is++L2) _ w hl hc hnd hm hps (Ny (A:=A) hdA hsel hES hI is a (λi hi=>by grind) (λi hi o ho=>hA i o ho (λhx=>?_) (λe=>hAn (by grind))) h)
   grind
  ·obtain⟨i0,hi0,hl0⟩:∃i0∈is,E.elem i0=false:=by
    grind
   refine⟨λh0=>?_,λi hi=>?_⟩
   ·have:=(hm i0).1 (by grind)
    exact absurd h0 (Nw Xd hc.1 i0 i0 (Nat.le_refl _) this.1 this.2)
   ·obtain⟨h0,oi,hoi,hall⟩:=mem_ready.1 hi
    have hlt:=(Array.getElem?_eq_some_iff.1 hoi).1;have hmi:=(hm i).2 ⟨hlt,by grind⟩;have hnl:∀j,j∈is++L2->BQ ops ops.size i j=false:=λj hj=>by
     grind[o9]
    have ahF:i∈is:=by
     grind
    obtain⟨pre,post,WS⟩:=List.append_of_mem ahF;rw[WS]at h hsp h2 hm hnd hl hAn hnl hsub;obtain⟨hpm,hpq⟩:=tN hsp;obtain⟨o,v,ho,hy,hs⟩:=FX hsel pre a (λj hj=>hnl j (by simp[hj])) hpm h;obtain rfl:o=oi:=Option.some.inj (ho.symm.trans hoi);have hiA:i≠A:=λe=>hAn (by grind)
    have hiL:i∉L2:=λhx=>by
     grind
    have hap:=hA i o hoi hiL hiA;obtain⟨h1,h2',h3⟩:=Oper.apart_spec hap;have hya:sZ P ops T w0 m o v (a.put dA (vb b)):=by rw[<-hdA];exact hy.1.put hap (λcs b=>hsel i o cs b hoi)
    refine hya.op hoi hI λw' hI'=>?_
    have e:(a.put dA (vb b)).put o.dst v=(a.put o.dst v).put dA (vb b):=by rw[<-hdA];exact Act.put_comm a (vb b) v h2'
    rw[e];have hs1:(pre++post).Sublist (pre++i::post):=List.Sublist.append (List.Sublist.refl _) (List.sublist_cons_self _ _);have hs2:(pre++post++L2).Sublist (pre++i::post++L2):=List.Sublist.append hs1 (List.Sublist.refl _);refine ih (listed.setIfInBounds i true) (pre++post) _ w' ?_ (xe hc hoi hall) (hnd.sublist hs2) (λk=>?_) hpq (λj hj k hk=>h2 j hj k ?_) (λhx=>hAn (hs2.subset hx)) (hs1.trans hsub) hI' hs
    ·grind
    ·rw[zn hc.1 hlt,<-hm k]
     have hni:i∉pre++post++L2:=by
      have hperm:(pre++i::post++L2).Perm (i::(pre++post++L2)):=by
       rw[List.append_assoc,List.append_assoc];exact List.perm_middle
      exact(List.nodup_cons.1 (hperm.nodup_iff.1 hnd)).1
     simp only[List.mem_append,List.mem_cons]at hni|-
     constructor
     ·intro hk
      refine⟨λe=>hni (e▸hk),?_⟩;rcases hk with(hk|hk) |hk
      ·exact .inl (.inl hk)
      ·exact .inl (.inr (.inr hk))
      ·exact .inr hk
     ·rintro⟨hne,(hk|hk|hk) |hk⟩
      ·exact .inl (.inl hk)
      ·exact absurd hk hne
      ·exact .inl (.inr hk)
      ·exact .inr hk
    grind
theorem QK{dA}(hoA:ops[A]? =some oA)(hA:∀i o,ops[i]? =some o->i∉L2->i≠A->oA.apart ops o=true)(hdA:oA.dst=dA)(hES:∀i∈E,S.elem i=false)(hp2:jU ops S F G (L1.filter E.elem++L2)=true)(hAw:∀a w,Inv T w0 w (nor::m)->Region.wanted oA (yielded ops a.tmps)=true∧oA.wp P a w (λa' w'=>∃b,a'=a.put dA (vb b)∧Inv T w0 w' (rb b::m)) (λ_ _ _=>False)):
  ∀fuel listed is a w,(is++A::L2).length=fuel->Closed ops listed->(is++A::L2).Nodup->
  (∀i,i∈is++A::L2↔(i<ops.size∧listed.getD i false=false))->nU ops is=true->(∀j∈L2,(∀i∈is,E.elem i=true∨BQ ops ops.size j i=true)∧BQ ops ops.size j A=true)->is.Sublist L1->Inv T w0 w (nor::m)->
  rV P ops T w0 m E (λa'=>∀b w,Inv T w0 w (rb b::m)->kV P ops S F G (λ_=>True) Q L2 (a'.put dA (vb b)) w) is a->wpAny P .any ops Q fuel listed a w:=by
 intro fuel
 induction fuel with
 |zero=>
  grind
 |succ fuel ih=>
  intro listed is a w hl hc hnd hm hsp h2 hsub hI h;refine⟨λh0=>?_,λi hi=>?_⟩
  ·have:=(hm A).1 SI
   exact absurd h0 (Nw Xd hc.1 A A (Nat.le_refl _) this.1 this.2)
  ·obtain⟨h0,oi,hoi,hall⟩:=mem_ready.1 hi
   have hlt:=(Array.getElem?_eq_some_iff.1 hoi).1;have hmi:=(hm i).2 ⟨hlt,by grind⟩;have hnl:∀j,j∈is++A::L2->BQ ops ops.size i j=false:=λj hj=>by
    grind[o9]
   have amy:A∉is:=λhx=>by
    grind
   by_cases hiA:i=A
   ·subst hiA
    obtain rfl:oA=oi:=Option.some.inj (hoA.symm.trans hoi);obtain⟨hw,hwp⟩:=hAw a w hI;unfold wpOp;rw[hoi];simp only;rw[if_pos hw];refine .inl ?_;have next:∀a' w',(∃b,a'=a.put dA (vb b)∧Inv T w0 w' (rb b::m))->wpAny P .any ops Q fuel (listed.setIfInBounds i true) a' w':=by
     rintro a' w' ⟨b,rfl,hI'⟩;have hperm:(is++i::L2).Perm (i::(is++L2)):=List.perm_middle;refine QJ hsel Xd hA hdA hES hp2 fuel (listed.setIfInBounds i true) is a w' ?_ (xe hc hoi hall) (List.nodup_cons.1 (hperm.nodup_iff.1 hnd)).2 (λk=>?_) hsp (λj hj=>(h2 j hj).1) (List.nodup_cons.1 (hperm.nodup_iff.1 hnd)).1 hsub hI' h
     ·grind
     ·rw[zn hc.1 hlt,<-hm k]
      grind
    unfold Oper.wp at hwp|-;generalize(execOp a.eval oA).run P w=r at hwp|-;cases r with
    |ok n w'=>
     cases n<;>simp only[Oper.upon]at hwp|-
     case value x=>grind
     case skip=>grind
     case defer df=>grind
     case enter f args=>
      refine hwp.mono λe w'' hh=>?_
      cases e with
      |returned x=>grind
      |panicked c=>grind
      |outgrown=>obtain⟨_,_,hh⟩:=hh;grind
     grind[Go.Rows.mono]
    |halt x w'=>cases x<;>simp only[Oper.upon]at hwp|-
   ·have ahF:i∈is:=by
     rcases List.mem_append.1 hmi with h|h
     ·exact h
     ·exfalso
      rcases List.mem_cons.1 h with h|h
      ·exact hiA h
      ·have h1:=(h2 i h).2
       have h3:=hnl A SI;rw[h1]at h3;cases h3
    obtain⟨pre,post,WS⟩:=List.append_of_mem ahF;rw[WS]at h hsp h2 hm hnd hl hnl hsub;obtain⟨hpm,hpq⟩:=tN hsp;obtain⟨o,v,ho,hy,hs⟩:=FX hsel pre a (λj hj=>hnl j (by simp[hj])) hpm h;obtain rfl:o=oi:=Option.some.inj (ho.symm.trans hoi);refine hy.1.op hoi hI λw' hI'=>?_
    have hperm:(pre++i::post++A::L2).Perm (i::(pre++post++A::L2)):=by
     rw[List.append_assoc,List.append_assoc];exact List.perm_middle
    have ajU:=List.nodup_cons.1 (hperm.nodup_iff.1 hnd);have hs1:(pre++post).Sublist (pre++i::post):=List.Sublist.append (List.Sublist.refl _) (List.sublist_cons_self _ _);refine ih (listed.setIfInBounds i true) (pre++post) _ w' ?_ (xe hc hoi hall) ajU.2 (λk=>?_) hpq (λj hj=>⟨λk hk=>(h2 j hj).1 k ?_,(h2 j hj).2⟩) (hs1.trans hsub) hI' hs
    ·have:=hperm.length_eq
     simp only[List.length_cons]at this;omega
    ·rw[zn hc.1 hlt,<-hm k,hperm.mem_iff,List.mem_cons]
     constructor
     ·intro hk;exact⟨λe=>ajU.1 (e▸hk),.inr hk⟩
     ·rintro⟨hne,hk|hk⟩
      ·exact absurd hk hne
      ·exact hk
    ·exact hs1.subset hk
end
def aal(ops:Array Oper)(S F G E L1:List Nat)(A:Nat)(L2:List Nat):Bool:=Region.noSelect ops&&(jU ops S F G (L1.filter E.elem++L2)&&E.all (λi=> !S.elem i))&&nU ops L1&&(List.range ops.size).all (λi=>(L1++A::L2).elem i)&&(L1++A::L2).all (λi=>decide (i<ops.size))&&
 decide (L1++A::L2).Nodup&&((List.range ops.size).all λk=>match ops[k]? with
  |none=>true
  |some o=>o.after.all λe=> !Region.binds .any e||decide (e.on<k))&&L1.all (λi=>match ops[A]?,ops[i]? with
  |some oA,some oi=>oA.apart ops oi
  |_,_=>false)&&L2.all (λj=>BQ ops ops.size j A&&L1.all (λi=>E.elem i||BQ ops ops.size j i))
theorem Ha{id}{l:List Oper}{Q a w}(S F G E L1 A L2 oA)(vb:Nat->Value)(rb:Nat->bT)(hm:P.follows .mixedOrders=true)(hB:aal l.toArray S F G E L1 A L2=true)(hoA:l[A]? =some oA)(hI:Inv T w0 w m)(hAw:∀a w,Inv T w0 w (nor::m)->Region.wanted oA (yielded l.toArray a.tmps)=true∧oA.wp P a w (λa' w'=>∃b,a'=a.put oA.dst (vb b)∧Inv T w0 w' (rb b::m)) (λ_ _ _=>False))(h:rV P l.toArray T w0 m E (λa'=>∀b w,Inv T w0 w (rb b::m)->kV P l.toArray S F G (λ_=>True) Q L2 (a'.put oA.dst (vb b)) w) L1 a):(Code.region id l.toArray true).wp P Q a w:=by
 simp only[aal,Bool.and_eq_true,List.all_eq_true,decide_eq_true_eq]at hB;obtain⟨⟨⟨⟨⟨⟨⟨⟨h1,h2,hes⟩,hsp⟩,h3⟩,h4⟩,h5⟩,h6⟩,h7⟩,h8⟩:=hB;refine wp_region_any hm ?_;have alE:l.toArray[A]? =some oA:=by grind
 refine QK (P:=P) (T:=T) (w0:=w0) (m:=m) (rb:=rb) (vb:=vb) (Region.noSelect_spec h1) (λi o ho e he hb=>?_) alE (λi o ho hiL hiA=>?_) rfl (λi hi=>by grind) h2 hAw _ _ L1 a _ ?_ ?_ h5 ?_ hsp ?_ (List.Sublist.refl _) hI.drew.nor h
 ·grind[Array.all_eq_true_iff_forall_mem]
 ·grind
 ·have hp:(L1++A::L2).Perm (List.range l.toArray.size):=(List.perm_ext_iff_of_nodup h5 List.nodup_range).2 λi=>⟨λhi=>by grind,λhi=>by grind⟩
  rw[hp.length_eq];simp
 ·refine⟨by simp,λj oj _ hj=>?_⟩
  simp only[Array.getD_eq_getD_getElem?,Array.getElem?_replicate]at hj
  grind
 ·intro i
  constructor
  all_goals simp_all
 grind
def ajV(T:List Nat)(w0:World)(m:List bT)(ex:bT)(a:Act)(d:Option Tmp)(v:Value):Exit->Act->World->Prop:=λe a' w'=>e=.normal∧a'=a.put d v∧Inv T w0 w' (ex::m)
theorem aam{l:List Oper}{E Fin i is a v dst op ty pos af g}(ho:l[i]? =some ⟨dst,op,ty,pos,af,g⟩)(hE:E.elem i=false)(hw:Region.wanted ⟨dst,op,ty,pos,af,g⟩ (yielded l.toArray a.tmps)=true)(hy:∀ex w,Inv T w0 w (ex::m)->wpList P l.toArray (ajV T w0 m ex a dst v) [⟨dst,op,ty,pos,af,none⟩] a w)(h:rV P l.toArray T w0 m E Fin is (a.put dst v)):rV P l.toArray T w0 m E Fin (i::is) a:=by
 refine⟨_,v,by grind,⟨.inl ⟨hw,λex w hI=>?_⟩,λh=>by grind⟩,h⟩;have h1:(⟨dst,op,ty,pos,af,none⟩:Oper).wp P a w (λa' w'=>a'=a.put dst v∧Inv T w0 w' (ex::m)) (λ_ _ _=>False):=qf (by simp[Region.wanted]) (hy ex w hI);exact BX h1
theorem Uv{l:List Oper}{E Fin i is a v dst op ty pos af g}(ho:l[i]? =some ⟨dst,op,ty,pos,af,g⟩)(hw:Region.wanted ⟨dst,op,ty,pos,af,g⟩ (yielded l.toArray a.tmps)=true)(hy:∀w,gu P ⟨dst,op,ty,pos,af,none⟩ a w v)(h:rV P l.toArray T w0 m E Fin is (a.put dst v)):rV P l.toArray T w0 m E Fin (i::is) a:=by
 have hy2:GM (λ_=>True) P l.toArray ⟨dst,op,ty,pos,af,g⟩ v a:=.inl ⟨hw,λw _=>hy w⟩;refine⟨_,v,by grind,⟨.inl ⟨hw,λex w hI=>?_⟩,λ_=>hy2⟩,h⟩;unfold Oper.wp;rw[show(execOp a.eval ⟨dst,op,ty,pos,af,g⟩).run P w=.ok (.value v) w from hy w];exact⟨rfl,hI⟩
end
section
variable {P:Program}{T:List Nat}{w0:World}{m:List bT}{l:List Oper}
theorem aG{id Q a w}{t n:Nat}[hz:yn P t n]{dst}{ty}{pos}{af}(S F G E L1)(A)(L2)
  (hm:P.follows .mixedOrders=true) (hB:aal l.toArray S F G E L1 A L2=true) (hoA:l[A]? =some ⟨dst,.alloc t,ty,pos,af,none⟩) (hI:Inv T w0 w m)
  (h:rV P l.toArray T w0 m E (λa'=>∀b w,Inv T w0 w (ib b t (au n)::m)->kV P l.toArray S F G (λ_=>True) Q L2 (a'.put dst (.pointer (some ⟨b,0,none⟩))) w) L1 a):(Code.region id l.toArray true).wp P Q a w:=by
 refine Ha S F G E L1 A L2 ⟨dst,.alloc t,ty,pos,af,none⟩ (λb=> .pointer (some ⟨b,0,none⟩)) (λb=>ib b t (au n)) hm hB hoA hI (λa w hI=>⟨by simp[Region.wanted],?_⟩) h;refine qf (ops:=l.toArray) (by simp[Region.wanted]) (DT hI λb w' hI'=>bY ⟨b,rfl,hI'.sub (.cons_cons _ (.cons _ (.refl _)))⟩)
def aan(T:List Nat)(w0:World)(m:List bT)(ex:bT)(a1:Act):Exit->Act->World->Prop:=λe a' w'=>e=.normal∧a'=a1∧Inv T w0 w' (ex::m)
theorem bM{ex a1 a' w'}(h:a'=a1)(hI:Inv T w0 w' (ex::m)):aan T w0 m ex a1 .normal a' w':=⟨rfl,h,hI⟩
theorem bN{E Fin i is a a1 dst op ty pos af g}(ho:l[i]? =some ⟨dst,op,ty,pos,af,g⟩)(hE:E.elem i=false)(hw:Region.wanted ⟨dst,op,ty,pos,af,g⟩ (yielded l.toArray a.tmps)=true)(hy:∀ex w,Inv T w0 w (ex::m)->wpList P l.toArray (aan T w0 m ex a1) [⟨dst,op,ty,pos,af,none⟩] a w)(hv:∃v,a1=a.put dst v)(h:rV P l.toArray T w0 m E Fin is a1):rV P l.toArray T w0 m E Fin (i::is) a:=by
 obtain⟨v,rfl⟩:=hv;exact aam ho hE hw hy h
theorem bQ{E Fin a}(h:Fin a):rV P l.toArray T w0 m E Fin [] a:=h
end
