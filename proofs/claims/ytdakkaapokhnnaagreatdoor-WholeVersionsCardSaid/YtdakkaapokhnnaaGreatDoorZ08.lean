/- Contracts of functions. No condition. -/
import Derived.Test.YtdakkaapokhnnaaGreatDoorZ03
import Derived.Test.YtdakkaapokhnnaaGreatDoorZ04
import Derived.Test.YtdakkaapokhnnaaGreatDoorZ05
namespace Go.Proofs.YtdakkaapokhnnaaGreatDoor
open Go.RowKit Go.Proofs.Tryz
set_option maxRecDepth 100000
set_option maxHeartbeats 6400000
set_option linter.all false
namespace A
theorem ajr:(prog.info? 5).map (·.size)=some 1:=by kernel_rfl
theorem q8{w0}(p t a n c)(hn:p.length=n)(ht:kr p=some t)(hr:Rd w0 a (p.map bv))(hc:n<=c)(hl:n<=100000):
  Calls prog 152 #[.slice a n c] w0 λe w'=>∃a' c',e=.returned (.tuple #[.slice a' t.length c',.bool true])∧Inv [] w0 w' [bD 5 1 (.slice a' t.length c') t.length (t.map bv)]:=by
 subst hn;refine(Mj w0 a c p hr hc hl).mono ?_;rintro e w' (⟨t',a',c',h,rfl,hI⟩ | ⟨h,_⟩)
 all_goals grind
theorem H_{w0}(p a n c)(hn:p.length=n)(ht:kr p=none)(hr:Rd w0 a (p.map bv))(hc:n<=c)(hl:n<=100000):
  Calls prog 152 #[.slice a n c] w0 λe w'=>e=.returned (.tuple #[.slice none 0 0,.bool false])∧Below w0.heap.size w0 w':=by
 subst hn;refine(Mj w0 a c p hr hc hl).mono ?_;rintro e w' (⟨t',a',c',h,rfl,hI⟩ | ⟨h,he,hb⟩)
 all_goals grind
theorem Dh{T w0 w m}{e size n n' c:Nat}{a' xs}(h:Inv T w0 w m)(hm:bD e size (.slice a' n' c) n xs∈m):n<=c:=by
 exact W79
end A
namespace A
theorem ajs(w0 H)(hH:w0.heap.size=H)(a c bs)(hr:Rd w0 a (bs.map bv))(hl:bs.length<=100000):
  Calls prog 187 #[.slice a bs.length c] w0 λe w'=>e=.returned (.slice (some ⟨H+1,0,none⟩) (bs.length+4) (bs.length+4))∧w'.heap.size=H+3∧Inv [] w0 w' [bD 5 1 (.slice (some ⟨H+1,0,none⟩) (bs.length+4) (bs.length+4)) (bs.length+4) ((ui bs).map bv)]:=by
 have hI:=Inv.start w0;have hl2:bs.length<=maxLen:=by simp only[maxLen];omega
 have hf:=PL a c bs;have hle:=HD (Yl (crc bs));have hH2:=HD hH;clear hH;go_enter func187,ntmps187;have hH:=hH2.out;go_wp2_with(first|(with_reducible refine zZ hI hH Ej RF ?_;clear hI hH;intro w hI hH)|go_at_call 177;refine KR (J4 _ _ [⟨a,c,bs⟩] 1 (xD (hI.rd aC) (hI.LV hr) hl2) (by simp[maxLen])) ?_|(with_reducible refine wN (c:=bs.length+4) hI hH o6 RF RF OM MX ?_;clear hI hH;intro w hI hH)|(with_reducible refine ny (q:=bs.length) hI hH RF RF o6 (by intro r';exact aU.here) (hI.LV hr) SI (yX _) OM ?_;clear hI hH;intro w hI hH;simp only[Nat.zero_add,List.nil_append]at hI;simp only[Nat.zero_add])|(with_reducible refine Aa hI hH o6 RF RF RF RF ?_;clear hI hH;intro w hI hH)|(with_reducible refine ny (q:=4) hI hH RF RF o6 (by intro r';exact aU.there aU.here) (hI.rd aC) RF (by simp[Value.oneCell']) OM ?_;clear hI hH;intro w hI hH));have hle2:=hle.out;rw[<-hle2,<-List.map_append]at hI;go_ret;exact⟨rfl,hH,hI.sub (.cons _ (.cons_cons _ (.cons _ .slnil)))⟩
end A
namespace A
def jY(f t:UInt8)(b:List UInt8):List UInt8:=ui (f::t::b)
def dJ(f t:UInt8)(p:List UInt8):Option (List UInt8):=
 match kr p with
 |some (x::y::r)=>if x=f∧y=t then some r else none
 |_=>none
theorem Ez(f t b):dJ f t (jY f t b)=some b:=by
 grind[A.dJ,A.jY,A.Mi]
theorem EA(f t b):(jY f t b).length=b.length+6:=by grind[A.jY,A.lD]
theorem age(w0 H)(hH:w0.heap.size=H)(a n c bs)(hn:bs.length=n)(hr:Rd w0 a (bs.map bv))(hl:n<=100000):
  Calls prog 187 #[.slice a n c] w0 λe w'=>e=.returned (.slice (some ⟨H+1,0,none⟩) (n+4) (n+4))∧w'.heap.size=H+3∧Inv [] w0 w' [bD 5 1 (.slice (some ⟨H+1,0,none⟩) (n+4) (n+4)) (n+4) ((ui bs).map bv)]:=by
 subst hn
 simp_all[A.ajs]
theorem acO(w0 H)(hH:w0.heap.size=H)(z1 z2 f t)(h1:z1=(f.toNat:Int))(h2:z2=(t.toNat:Int))(a n c bs)(hn:bs.length=n)(hr:Rd w0 a (bs.map bv))(hl:n<=90000):
  Calls prog 216 #[.int .i64 z1,.int .i64 z2,.slice a n c] w0 λe w'=>e=.returned (.slice (some ⟨H+3,0,none⟩) (2+n+4) (2+n+4))∧w'.heap.size=H+5∧Inv [] w0 w' [bD 5 1 (.slice (some ⟨H+3,0,none⟩) (2+n+4) (2+n+4)) (2+n+4) ((jY f t bs).map bv)]:=by
 subst h1 h2 hn;have hI:=Inv.start w0;have hf:=f.toNat_lt;have ht:=t.toNat_lt;have hbv:Hid ([Value.int .u8 (f.toNat:Int),.int .u8 (t.toNat:Int)]++bs.map bv=(f::t::bs).map bv):=HD (by simp[bv]);have hH2:=HD hH;clear hH;go_enter func216,ntmps216;have hH:=hH2.out;clear hH2;go_wp2_with(first|(with_reducible refine wN (c:=2+bs.length) hI hH o6 RF RF OM MX ?_;clear hI hH;intro w hI hH)|(with_reducible refine z_ hI hH o6 RF RF ?_;clear hI hH;intro w hI hH)|(with_reducible refine ny (q:=2) hI hH RF RF o6 (by intro r';exact aU.there aU.here) (hI.rd aC) RF (by simp[Value.oneCell']) OM ?_;clear hI hH;intro w hI hH;simp only[Nat.zero_add,List.nil_append]at hI;simp only[Nat.zero_add])|(with_reducible refine ny (q:=bs.length) hI hH RF RF o6 (by intro r';exact aU.there aU.here) (hI.LV hr) SI (yX _) OM ?_;clear hI hH;intro w hI hH;rw[hbv.out]at hI)|go_at_call 187;refine(age _ _ hH _ _ _ (f::t::bs) (by simp only[List.length_cons];omega) (hI.rd aM) OM).mono ?_;rintro e w1 ⟨rfl,hH2,hJ⟩;clear hH;have hH:=hH2;clear hH2;replace hI:=hI.seq hJ;simp only[List.cons_append,List.nil_append]at hI;clear hJ);go_ret;exact⟨rfl,hH,hI.sub (.cons_cons _ (List.nil_sublist _))⟩
theorem o7{w b off}{p:List UInt8}(h:Rd w (some ⟨b,off,none⟩) (p.map bv))(i u)(hi:p[i]? =some u):w.cell? ⟨b,off+i,none⟩=some (.int .u8 (u.toNat:Int)):=by
 obtain⟨b',off',hab,hc⟩:=h i (bv u) (by grind);cases hab;exact hc
theorem UZ(w0 f t a n c p)(hn:p.length=n)(hr:Rd w0 a (p.map bv))(hc:n<=c)(hl:n<=100000)(h:dJ f t p=none):
  Calls prog 112 #[.int .i64 (f.toNat:Int),.int .i64 (t.toNat:Int),.slice a n c] w0 λe w'=>e=.returned (.tuple #[.slice none 0 0,.bool false])∧Below w0.heap.size w0 w':=by
 have hI:=Inv.start w0;have hf:=f.toNat_lt;have ht:=t.toNat_lt;cases hp:kr p with
 |none=>
  replace hp:=HD hp;go_enter func112,ntmps112;go_wp2_with(go_at_call 152;refine(H_ p _ _ _ hn hp.out (hI.LV hr) hc hl).mono ?_;rintro e w3 ⟨rfl,hw3⟩;replace hI:=hI.call hw3;clear hw3)
  go_ret2
  exact⟨rfl,hI.below⟩
 |some q=>
  have hq4:q.length+4=n:=by rw[<-hn,<-uu hp,lD]
  replace hp:=HD hp
  match q,hp,hq4 with
  | [],hp,hq4=>
   go_enter func112,ntmps112;go_wp2_with(first|refine YL ?_|go_at_call 152;refine(q8 p [] _ _ _ hn hp.out (hI.LV hr) hc hl).mono ?_;rintro e w3 ⟨a2,c2,rfl,hJ⟩;replace hI:=hI.seq hJ;clear hJ)
   go_ret2
   exact⟨rfl,hI.below⟩
  | [x],hp,hq4=>
   go_enter func112,ntmps112;go_wp2_with(first|refine YL ?_|go_at_call 152;refine(q8 p [x] _ _ _ hn hp.out (hI.LV hr) hc hl).mono ?_;rintro e w3 ⟨a2,c2,rfl,hJ⟩;replace hI:=hI.seq hJ;clear hJ)
   go_ret2
   exact⟨rfl,hI.below⟩
  |x::y::r,hp,hq4=>
   have hxy:¬(x=f∧y=t):=by
    intro hc;unfold dJ at h;rw[hp.out]at h;simp only[if_pos hc]at h;cases h
   have hx:=x.toNat_lt;have hy:=y.toNat_lt;have hql:(x::y::r).length=r.length+2:=rfl;have hrl:r.length<=100000:=by simp only[List.length_cons]at hq4;omega
   have two:((x.toNat:Int) != (f.toNat:Int))=true∨(((x.toNat:Int) != (f.toNat:Int))=false∧((y.toNat:Int) != (t.toNat:Int))=true):=by
    by_cases h1:x=f
    ·refine .inr ⟨by simp[h1],?_⟩
     have:y≠t:=λh2=>hxy ⟨h1,h2⟩
     have h3:y.toNat≠t.toNat:=λh=>this (UInt8.toNat_inj.1 h)
     simp;omega
    ·have h3:x.toNat≠f.toNat:=λh=>h1 (UInt8.toNat_inj.1 h)
     exact .inl (by simp;omega)
   clear hxy h hq4;rcases two with h1| ⟨h1,h2⟩
   all_goals
    go_enter func112,ntmps112;go_wp2_with(first|refine YL ?_|(go_at_call 152;refine KO hI (q8 p (x::y::r) _ _ _ hn hp.out (hI.LV hr) hc hl) ?_;intro a2 c2 w3 hI;obtain⟨gq,hgq⟩:=gZ (a':=a2) hI aC SI;subst hgq;have hc2:=Dh hI aC;have k0:=o7 (hI.rd (a':=some ⟨gq,0,none⟩) aC) 0 x rfl;have k1:=o7 (hI.rd (a':=some ⟨gq,0,none⟩) aC) 1 y rfl;simp only[List.length_cons]at hc2|-))
    go_ret2
    exact⟨rfl,hI.below⟩
theorem Ym{w0}{f t:UInt8}{a n c R}(h:Calls prog 112 #[.int .i64 (f.toNat:Int),.int .i64 (t.toNat:Int),.slice a n c] w0 R)(z1 z2)(h1:z1=(f.toNat:Int))(h2:z2=(t.toNat:Int)):
  Calls prog 112 #[.int .i64 z1,.int .i64 z2,.slice a n c] w0 R:=by grind
theorem Ia(w0 z1 z2 f t)(h1:z1=(f.toNat:Int))(h2:z2=(t.toNat:Int))(a n c bs)(hn:bs.length=n)(hr:Rd w0 a (bs.map bv))(hl:n<=90000):
  Calls prog 216 #[.int .i64 z1,.int .i64 z2,.slice a n c] w0 λe w'=>∃g,e=.returned (.slice (some ⟨g,0,none⟩) (n+6) (n+6))∧Inv [] w0 w' [bD 5 1 (.slice (some ⟨g,0,none⟩) (n+6) (n+6)) (n+6) ((jY f t bs).map bv)]:=
 (acO w0 _ rfl z1 z2 f t h1 h2 a n c bs hn hr hl).mono λe w' ⟨he,_,hI⟩=>by
  grind
end A
namespace A
open Go.RowKit Go.Conc
theorem ac7(w):(zeroValue 63).run prog w=.ok (.slice none 0 0) w:=by simp_all
theorem YN(w0 pb c cap s r v vs)(hb:w0.heap[pb]? =some (.cells #[.chan (some c)] 183 (0,0)))(hc:w0.heap[c]? =some (.chan cap (v::vs).toArray false s r false)):
  Calls prog 111 #[.pointer (some ⟨pb,0,none⟩)] w0 λe w'=>e=.returned (.tuple #[v,.bool true])∧w'=w0.setChan c cap vs.toArray false s (r+1) false:=by
 have hcell:w0.cell? ⟨pb,0,none⟩=some (.chan (some c)):=by simp[World.cell?,hb]
 refine qP func111 rfl ?_;simp only[ntmps111,List.size_toArray,List.length_cons,List.length_nil,Nat.reduceAdd,Nat.reduceSub,Array.replicate_succ,Array.replicate_zero,List.push_toArray,List.append_toArray,List.nil_append,List.cons_append];refine mH.seq (mH.of ?_)
 go_wp2
 refine mH.seq (mH.of ?_)
 go_wp2
 refine mH.seq (mH.region ?_);have hz:=ac7 w0;refine lH.comm (i:=0) (rest:=List.range' 1 2) rfl rfl (cases:= #[rcase c (.slice none 0 0)]) (blocking:=false) (shape:=.select) (by simp[execOp,rcase,Act.eval,Sem.run_bind,hz,Result.andThen]) (λfr cs es h=>step_lone_select_recv_buf h hc SI) ?_;refine lH.list 1 _ rfl ?_;have e1:(v::vs).toArray.getD 0 undef=v:=by simp
 have e2:(v::vs).toArray.extract 1=vs.toArray:=by simp
 rw[e1,e2];generalize w0.setChan c cap vs.toArray false s (r+1) false=w1
 (simp only[List.drop_succ_cons,List.drop_zero,Act.put,List.setIfInBounds_toArray,QG,QS,goInt])
 go_wp2
 refine mH.of ?_
 go_wp2
 go_ret2
 exact⟨rfl,rfl⟩
theorem oI(w c cap buf cl s r tm):Step [c] w (w.setChan c cap buf cl s r tm):=
 ⟨rfl,rfl,rfl,by simp[World.setChan],λk _ hn=>by
  simp only[World.setChan]
  grind⟩
theorem J_(w0 pb c cap s r vs)(hb:w0.heap[pb]? =some (.cells #[.chan (some c)] 183 (0,0)))(hc:w0.heap[c]? =some (.chan cap vs.toArray false s r false))(hroom:vs.length<cap)(a cp)(bs:List UInt8)(hr:Rd w0 a (bs.map bv))(hl:bs.length<=100000):
  Calls prog 110 #[.pointer (some ⟨pb,0,none⟩),.slice a bs.length cp] w0 λe w'=>e=.returned (.bool true)∧∃a1 c1,(bD 5 1 (.slice a1 bs.length c1) bs.length (bs.map bv)).sat w'∧Step [c] w0 w'∧
   w'.heap[c]? =some (.chan cap (vs++[Value.slice a1 bs.length c1]).toArray false (s+1) r false)∧∀k∈(bD 5 1 (.slice a1 bs.length c1) bs.length (bs.map bv)).own,w0.heap.size<=k∧k<w'.heap.size:=by
 have hcell:w0.cell? ⟨pb,0,none⟩=some (.chan (some c)):=by simp[World.cell?,hb]
 have hlt:c<w0.heap.size:=(Array.getElem?_eq_some_iff.1 hc).1;have hI:=Inv.start w0;refine qP func110 rfl ?_;simp only[ntmps110,List.size_toArray,List.length_cons,List.length_nil,Nat.reduceAdd,Nat.reduceSub,Array.replicate_succ,Array.replicate_zero,List.push_toArray,List.append_toArray,List.nil_append,List.cons_append];refine mH.seq (mH.of ?_)
 go_wp2
 refine mH.seq (mH.of ?_);go_wp2_with(first|(with_reducible refine oD hI o6 ?_;intro bx w hI)|(with_reducible refine aA (q:=bs.length) hI RF RF o6 (by intro r';exact aU.here) (hI.LV hr) SI (yX _) MX OM ?_;intro a1 c1 w hI));refine mH.seq (mH.region ?_);simp only[Nat.zero_add,List.nil_append]at hI|-;have hz:=ac7 w;have hcw:w.heap[c]? =some (.chan cap vs.toArray false s r false):=(hI.old c hlt SI).trans hc;simp only[QN];refine lH.comm (i:=0) (rest:=List.range' 1 2) rfl rfl (cases:= #[scase c (.slice a1 bs.length c1) (.slice none 0 0)]) (blocking:=false) (shape:=.select) (by simp[execOp,scase,Act.eval,Sem.run_bind,hz,Result.andThen]) (λfr cs es h=>step_lone_select_send_room h hcw (by simpa using hroom)) ?_;refine lH.list 1 _ rfl ?_;have hst:=oI w c cap (vs.toArray.push (.slice a1 bs.length c1)) false (s+1) r false;have hlt2:c<w.heap.size:=(Array.getElem?_eq_some_iff.1 hcw).1;have hnew:=heap_setChan w c cap (vs.toArray.push (.slice a1 bs.length c1)) false (s+1) r false hlt2;generalize w.setChan c cap (vs.toArray.push (.slice a1 bs.length c1)) false (s+1) r false=w1 at*
 (simp only[List.drop_succ_cons,List.drop_zero,Act.put,List.setIfInBounds_toArray,QG,QS,goInt])
 go_wp2
 refine mH.of ?_
 go_wp2
 go_ret;have hown:∀k∈(bD 5 1 (.slice a1 bs.length c1) bs.length (bs.map bv)).own,w0.heap.size<=k∧k<w.heap.size:=λk hk=>by
  have:=hI.mine k (fT.2 ⟨_,by simp,hk⟩);exact⟨this.1.resolve_right SI,this.2⟩
 refine⟨rfl,a1,c1,?_,?_,?_,?_⟩
 ·exact(bD 5 1 (.slice a1 bs.length c1) bs.length (bs.map bv)).loc w w1 (λk hk=>hst.same k (hown k hk).2 (by have:=(hown k hk).1;simp;omega)) (hI.sat _ SI)
 ·exact(hI.end_.mono SI).trans hst
 ·rw[hnew];simp
 ·exact λk hk=>⟨(hown k hk).1,Nat.lt_of_lt_of_le (hown k hk).2 hst.size⟩
theorem PX(w0 pb c cap s r)(vs:List Value)(hb:w0.heap[pb]? =some (.cells #[.chan (some c)] 183 (0,0)))(hc:w0.heap[c]? =some (.chan cap vs.toArray false s r false))(hfull:cap<=vs.length)(a cp)(bs:List UInt8)(hr:Rd w0 a (bs.map bv))(hl:bs.length<=100000):
  Calls prog 110 #[.pointer (some ⟨pb,0,none⟩),.slice a bs.length cp] w0 λe w'=>e=.returned (.bool false)∧Below w0.heap.size w0 w':=by
 have hcell:w0.cell? ⟨pb,0,none⟩=some (.chan (some c)):=by simp[World.cell?,hb]
 have hlt:c<w0.heap.size:=(Array.getElem?_eq_some_iff.1 hc).1;have hI:=Inv.start w0;refine qP func110 rfl ?_;simp only[ntmps110,List.size_toArray,List.length_cons,List.length_nil,Nat.reduceAdd,Nat.reduceSub,Array.replicate_succ,Array.replicate_zero,List.push_toArray,List.append_toArray,List.nil_append,List.cons_append];refine mH.seq (mH.of ?_)
 go_wp2
 refine mH.seq (mH.of ?_);go_wp2_with(first|(with_reducible refine oD hI o6 ?_;intro bx w hI)|(with_reducible refine aA (q:=bs.length) hI RF RF o6 (by intro r';exact aU.here) (hI.LV hr) SI (yX _) MX OM ?_;intro a1 c1 w hI));refine mH.seq (mH.region ?_);simp only[Nat.zero_add,List.nil_append]at hI|-;have hz:=ac7 w;have hcw:w.heap[c]? =some (.chan cap vs.toArray false s r false):=(hI.old c hlt SI).trans hc;simp only[QN];refine lH.comm (i:=0) (rest:=List.range' 1 2) rfl rfl (cases:= #[scase c (.slice a1 bs.length c1) (.slice none 0 0)]) (blocking:=false) (shape:=.select) (by simp[execOp,scase,Act.eval,Sem.run_bind,hz,Result.andThen]) (λfr cs es h=>step_lone_select_send_full h hcw (by simpa using hfull)) ?_;refine lH.list 1 _ rfl ?_
 (simp only[List.drop_succ_cons,List.drop_zero,Act.put,List.setIfInBounds_toArray,QG,QS,goInt])
 go_wp2
 refine mH.of ?_
 go_wp2
 go_ret;exact⟨rfl,hI.below⟩
end A
namespace A
open Go.RowKit Go.Conc
def qv(q:Option Addr×Nat×List UInt8):Value:=.slice q.1 q.2.2.length q.2.1
def qr(q:Option Addr×Nat×List UInt8):bT:=bD 5 1 (qv q) q.2.2.length (q.2.2.map bv)
def oJ(pb c cap:Nat)(qs:List (Option Addr×Nat×List UInt8)):bT:=
 ⟨pb::c::owned (qs.map qr),λw=>w.heap[pb]? =some (.cells #[.chan (some c)] 183 (0,0))∧(∃s r,w.heap[c]? =some (.chan cap (qs.map qv).toArray false s r false))∧∀x∈qs.map qr,x.sat w,λw w' h hs=>by
  obtain⟨h1,⟨s,r,h2⟩,h3⟩:=hs;refine⟨by rw[h pb SI];exact h1,⟨s,r,by rw[h c SI];exact h2⟩,λx hx=>x.loc w w' (λk hk=>h k ?_) (h3 x hx)⟩;exact List.mem_cons_of_mem _ (List.mem_cons_of_mem _ (fT.2 ⟨x,hx,hk⟩))⟩
theorem Ah{w pb c cap qs}(hs:(oJ pb c cap qs).sat w)(hn:(oJ pb c cap qs).own.Nodup):Inv (oJ pb c cap qs).own w w [oJ pb c cap qs]:=by
 refine⟨rfl,rfl,rfl,Nat.le_refl _,λ_ _ _=>rfl,λx hx=>by grind,λk hk=>?_,by grind[owned]⟩;have hk2:k∈(oJ pb c cap qs).own:=by grind[owned]
 refine⟨.inr hk2,?_⟩;obtain⟨h1,⟨s,r,h2⟩,h3⟩:=hs;simp only[oJ,List.mem_cons]at hk2;rcases hk2 with rfl|rfl|hk2
 ·grind
 ·grind
 ·obtain⟨x,hx,hkx⟩:=fT.1 hk2
  obtain⟨q,hq,rfl⟩:=List.mem_map.1 hx;rcases(h3 _ hx).2 with⟨h0,_⟩ | ⟨g,cp,cur,h0,_,hg,_⟩
  ·simp only[qr,bD,h0,Value.ownBlock]at hkx
   grind
  ·simp only[qr,bD,h0,Value.ownBlock]at hkx
   grind
theorem Ka(w0 pb c cap qs)(hs:(oJ pb c cap qs).sat w0)(hn:(oJ pb c cap qs).own.Nodup)(hroom:qs.length<cap)(a cp bs)(hr:Rd w0 a (bs.map bv))(hl:bs.length<=100000):
  Calls prog 110 #[.pointer (some ⟨pb,0,none⟩),.slice a bs.length cp] w0 λe w'=>e=.returned (.bool true)∧∃a1 c1,Inv (oJ pb c cap qs).own w0 w' [oJ pb c cap (qs++[(a1,c1,bs)])]:=by
 have hI:=Ah hs hn;obtain⟨h1,⟨s,r,h2⟩,h3⟩:=hs;refine(J_ w0 pb c cap s r (qs.map qv) h1 h2 (by grind) a cp bs hr hl).mono ?_;rintro e w' ⟨he,a1,c1,G6,hst,hc,hown⟩;have hcT:c∈(oJ pb c cap qs).own:=by simp[oJ]
 have hne:pb≠c:=by
  grind
 refine⟨he,a1,c1,hst.os,hst.tape,hst.output,hst.size,λk hk Um=>hst.same k hk (λh=>Um (by grind)),λx hx=>?_,λk hk=>?_,?_⟩
 ·obtain rfl:=List.mem_singleton.1 hx
  refine⟨?_,⟨s+1,r,?_⟩,λy hy=>?_⟩
  ·grind[Step.same]
  ·grind[A.qv]
  ·rw[List.map_append,List.mem_append]at hy
   rcases hy with hy|hy
   ·refine y.loc w0 w' (λk hk=>hst.same k (hI.mine k (by simp only[owned,List.flatMap_cons,List.flatMap_nil,List.append_nil];exact List.mem_cons_of_mem _ (List.mem_cons_of_mem _ (fT.2 ⟨y,hy,hk⟩)))).2 ?_) (h3 y hy)
    grind[A.oJ,fT]
   ·simp only[List.map_cons,List.map_nil,List.mem_singleton]at hy
    subst hy;exact G6
 ·have hk2:k∈(oJ pb c cap qs).own∨k∈(bD 5 1 (.slice a1 bs.length c1) bs.length (bs.map bv)).own:=by
   simp only[owned,List.flatMap_cons,List.flatMap_nil,List.append_nil,oJ,List.map_append,List.map_cons,List.map_nil,List.flatMap_append,List.mem_cons,List.mem_append]at hk|-;rcases hk with h|h|h|h
   ·omega
   ·omega
   ·grind
   ·exact .inr h
  rcases hk2 with h|h
  ·grind[Inv.mine,owned,Nat.lt_of_lt_of_le,Step.size]
  grind
 ·have e:owned [oJ pb c cap (qs++[(a1,c1,bs)])]=(oJ pb c cap qs).own++(bD 5 1 (.slice a1 bs.length c1) bs.length (bs.map bv)).own:=by
   simp[owned,oJ,qr,qv]
  grind[bD,Inv.mine,owned]
theorem YO(w0 pb c cap q qs)(hs:(oJ pb c cap (q::qs)).sat w0)(hn:(oJ pb c cap (q::qs)).own.Nodup):
  Calls prog 111 #[.pointer (some ⟨pb,0,none⟩)] w0 λe w'=>e=.returned (.tuple #[qv q,.bool true])∧Inv (oJ pb c cap (q::qs)).own w0 w' [qr q,oJ pb c cap qs]:=by
 have hI:=Ah hs hn;obtain⟨h1,⟨s,r,h2⟩,h3⟩:=hs;refine(YN w0 pb c cap s r (qv q) (qs.map qv) h1 (by grind)).mono ?_;rintro e w' ⟨he,hw⟩;have hst:Step [c] w0 w':=by grind[A.oI]
 have hc:w'.heap[c]? =some (.chan cap (qs.map qv).toArray false s (r+1) false):=by grind[Go.Conc.heap_setChan]
 have hcT:c∈(oJ pb c cap (q::qs)).own:=by simp[oJ]
 have hnd:=hn;simp only[oJ,List.nodup_cons,List.mem_cons,not_or]at hnd;have hkeep:∀y∈(q::qs).map qr,y.sat w':=λy hy=>by
  refine y.loc w0 w' (λk hk=>hst.same k (hI.mine k (by simp only[owned,List.flatMap_cons,List.flatMap_nil,List.append_nil];exact List.mem_cons_of_mem _ (List.mem_cons_of_mem _ (fT.2 ⟨y,hy,hk⟩)))).2 ?_) (h3 y hy)
  grind[fT]
 have hperm:(owned [qr q,oJ pb c cap qs]).Perm (oJ pb c cap (q::qs)).own:=by
  grind[owned,A.oJ]
 refine⟨he,hst.os,hst.tape,hst.output,hst.size,λk hk Um=>hst.same k hk (λh=>Um (by grind)),λx hx=>?_,λk hk=>?_,hperm.nodup_iff.2 hn⟩
 ·rcases List.mem_cons.1 hx with rfl|hx
  ·grind
  ·obtain rfl:=List.mem_singleton.1 hx
   refine⟨?_,⟨s,r+1,hc⟩,λy hy=>hkeep y (by grind)⟩
   grind[Step.same]
 ·have hk2:=hperm.subset hk
  exact⟨.inr hk2,Nat.lt_of_lt_of_le (hI.mine k (by grind[owned])).2 hst.size⟩
end A
namespace A
open Go.RowKit Go.Conc
section
variable {P:Program}{ops:Array Oper}{Q:Exit->Act->World->Prop}{a:Act}{rest:List Oper}{w:World}{dst:Option Tmp}{ty:TypeId}{pos:String}{af:Array Edge}
theorem CU{x t e dir c cap s r buf closed}(ht:P.underlying t=some (.chan dir e))(hx:a.eval x=.chan (some c))(hc:w.heap[c]? =some (.chan cap buf closed s r false))(k:wpList P ops Q rest (a.put dst (.int .i64 buf.size)) w):wpList P ops Q (⟨dst,.call {callee:=.builtin .len,args:= #[x],argTypes:= #[t]},ty,pos,af,none⟩::rest) a w:=by
 refine av ?_ k;unfold gu execOp;simp only[resolve,invoke,builtin,Sem.run_bind,Sem.run_pure,Result.andThen_ok,List.map_toArray,List.map_cons,List.map_nil,hx,run_len_chan t _ ht hc];rfl
theorem vT{x t e dir c cap s r buf closed}(ht:P.underlying t=some (.chan dir e))(hx:a.eval x=.chan (some c))(hc:w.heap[c]? =some (.chan cap buf closed s r false))(k:wpList P ops Q rest (a.put dst (.int .i64 cap)) w):wpList P ops Q (⟨dst,.call {callee:=.builtin .cap,args:= #[x],argTypes:= #[t]},ty,pos,af,none⟩::rest) a w:=by
 refine av ?_ k;unfold gu execOp;simp only[resolve,invoke,builtin,Sem.run_bind,Sem.run_pure,Result.andThen_ok,List.map_toArray,List.map_cons,List.map_nil,hx,run_cap_chan t _ ht hc];rfl
end
theorem SS(w0 pb c cap a0 c0 GN qs)(hs:(oJ pb c cap ((a0,c0,GN)::qs)).sat w0)(hn:(oJ pb c cap ((a0,c0,GN)::qs)).own.Nodup):
  Calls prog 111 #[.pointer (some ⟨pb,0,none⟩)] w0 λe w'=>e=.returned (.tuple #[.slice a0 GN.length c0,.bool true])∧Inv (oJ pb c cap ((a0,c0,GN)::qs)).own w0 w' [bD 5 1 (.slice a0 GN.length c0) GN.length (GN.map bv),oJ pb c cap qs]:=
 YO w0 pb c cap (a0,c0,GN) qs hs hn
theorem ac8(w0 pb c cap a0 c0 GN qs)(hs:(oJ pb c cap ((a0,c0,GN)::qs)).sat w0)(hn:(oJ pb c cap ((a0,c0,GN)::qs)).own.Nodup)(hcap:qs.length<cap)(hl:GN.length<=100000):
  Calls prog 74 #[.pointer (some ⟨pb,0,none⟩)] w0 λe w'=>e=.returned (.bool true)∧∃a1 c1,Inv (oJ pb c cap ((a0,c0,GN)::qs)).own w0 w' [oJ pb c cap (qs++[(a1,c1,GN)])]:=by
 have hI:=Ah hs hn;clear hs hn;go_enter func74,ntmps74;go_wp2_with(first|refine YL ?_|go_at_call 111;(with_reducible refine(SS _ pb c cap a0 c0 GN qs (hI.sat _ aC) (hI.nd aC)).mono ?_);rintro e w1 ⟨rfl,hJ⟩;replace hI:=hI.Uu hJ aU.here;clear hJ|go_at_call 110;(with_reducible refine(Ka _ pb c cap qs (hI.sat _ aM) (hI.nd aM) OM _ _ GN (hI.rd aC) hl).mono ?_);rintro e w1 ⟨rfl,a1,c1,hJ⟩;replace hI:=hI.on hJ (aU.there aU.here);clear hJ);go_ret;exact⟨rfl,a1,c1,hI.tl⟩
theorem Kb(w0 pb c cap qs)(hs:(oJ pb c cap qs).sat w0):
  Calls prog 72 #[.pointer (some ⟨pb,0,none⟩)] w0 λe w'=>e=.returned (.int .i64 qs.length)∧w'=w0:=by
 obtain⟨h1,⟨s,r,hch⟩,h3⟩:=hs;have hcell:w0.cell? ⟨pb,0,none⟩=some (.chan (some c)):=by simp[World.cell?,h1]
 have hsz:((qs.map qv).toArray.size:Int)=qs.length:=by simp
 go_enter func72,ntmps72;go_wp2_with(with_reducible refine CU underlying181 RF hch ?_);go_ret;exact⟨by simp,rfl⟩
end A
namespace A
open Go.RowKit Go.Conc
def chn(c cap:Nat):bT:=⟨[c],λw=>∃s r,w.heap[c]? =some (.chan cap #[] false s r false),λw w' h hs=>by
 obtain⟨s,r,h1⟩:=hs;exact⟨s,r,by rw[h c SI];exact h1⟩⟩
theorem EN{w0 w pb c cap}(h:Inv [] w0 w [blk pb 183 [.chan (some c)],chn c cap]):Inv [] w0 w [oJ pb c cap []]:=by
 have e:owned [oJ pb c cap []]=owned [blk pb 183 [.chan (some c)],chn c cap]:=by simp[owned,oJ,blk,chn]
 refine⟨h.os,h.tape,h.output,h.size,h.old,λx hx=>?_,by exact h.mine,by grind[Inv.apart]⟩;obtain rfl:=List.mem_singleton.1 hx;exact⟨h.sat (blk pb 183 [.chan (some c)]) SI,h.sat (chn c cap) SI,by simp⟩
theorem alg:(prog.info? 63).map (·.bytes)=some 24:=by kernel_rfl
theorem ajx:prog.underlying 183=some (.struct (prog.fieldsOf 183)):=by kernel_rfl
theorem alh:(prog.fieldsOf 183).toList.map (placeOf prog)=[(0,1)]:=by kernel_rfl
theorem ali:(prog.fieldsOf 183).toList.all (λf=>(prog.info? f.type).isSome)=true:=by kernel_rfl
theorem ac9(c w):(Instr.build 183 #[(0,.chan (some c))]).run prog w=.ok (.agg #[.chan (some c)]) w:=by
 have hzv:(zeroValue 183).run prog w=.ok (.agg #[.chan none]) w:=by simp_all
 have hr:=mZ (P:=prog) (prog.fieldsOf 183).toList (List.all_eq_true.1 ali) w;rw[alh]at hr;simp only[Instr.build,Sem.run_bind,hzv,Result.andThen_ok,run_underlying ajx];rw[<-Array.toArray_toList (xs:=prog.fieldsOf 183),List.mapM_toArray];simp only[Sem.run_map,hr];simp[Instr.fill,Value.cells]
section
variable {ops:Array Oper}{Q:Exit->Act->World->Prop}{a:Act}{rest:List Oper}{T:List Nat}{w0 w:World}{m:List bT}{dst:Option Tmp}{ty:TypeId}{pos:String}{af:Array Edge}
theorem rH{x c}(hx:a.eval x=.chan (some c))(k:wpList prog ops Q rest (a.put dst (.agg #[.chan (some c)])) w):wpList prog ops Q (⟨dst,.build 183 #[(0,x)],ty,pos,af,none⟩::rest) a w:=by
 refine av ?_ k;unfold gu execOp
 simp_all[A.ac9]
theorem qG{x}{n:Nat}(hI:Inv T w0 w m)(hx:a.eval x=.int .i64 n)(hn:n<=64)(k:∀c w',Inv T w0 w' (chn c n::m)->wpList prog ops Q rest (a.put dst (.chan (some c))) w'):wpList prog ops Q (⟨dst,.makeChan 181 x,ty,pos,af,none⟩::rest) a w:=
 wpList_plain rfl λK hK=>by
  obtain⟨inf,JL,hb⟩:=Option.map_eq_some_iff.1 alg;have hr:=run_makeChan (P:=prog) (w:=w) underlying181 JL .i64 n OM (by grind);unfold Oper.wp execOp;simp only[hx,Sem.run_bind,hr,Result.andThen_ok,Sem.run_pure];refine hK _ _ (k w.heap.size (w.alloc (.chan n #[] false 0 0 false)) ?_);have hsz:(w.alloc (.chan n #[] false 0 0 false)).heap.size=w.heap.size+1:=by simp_all
  exact hI.new ⟨rfl,rfl,rfl,by omega,λj hj _=>(MapKept.heap_alloc w _).2 j hj⟩ ⟨0,0,(MapKept.heap_alloc w _).1⟩ (by grind[A.chn]) (by simp[chn])
end
def ME(n:Int):Nat:=if n<1 then 1 else if 64<n then 64 else n.toNat
theorem agx(w0 n):Calls prog 62 #[.int .i64 n] w0 λe w'=>∃pb c,e=.returned (.pointer (some ⟨pb,0,none⟩))∧Inv [] w0 w' [oJ pb c (ME n) []]:=by
 have hI:=Inv.start w0;by_cases h1:n<1
 ·have e:ME n=1:=by unfold ME;rw[if_pos h1]
  rw[e];go_enter func62,ntmps62;go_wp2_with(first|(with_reducible refine qG (n:=1) hI RF OM ?_);intro c w hI|with_reducible refine rH RF ?_|(with_reducible refine bX (cs:=[.chan (some c)]) hI RF ?_);intro pb w hI);go_ret;exact⟨pb,c,rfl,EN hI⟩
 ·by_cases h2:64<n
  ·have e:ME n=64:=by unfold ME;rw[if_neg h1,if_pos h2]
   rw[e];go_enter func62,ntmps62;go_wp2_with(first|(with_reducible refine qG (n:=64) hI RF OM ?_);intro c w hI|with_reducible refine rH RF ?_|(with_reducible refine bX (cs:=[.chan (some c)]) hI RF ?_);intro pb w hI);go_ret;exact⟨pb,rfl,c,EN hI⟩
  ·obtain⟨k,rfl⟩:∃k:Nat,n=k:=⟨n.toNat,by omega⟩
   have e:ME (k:Int)=k:=by unfold ME;rw[if_neg h1,if_neg h2];simp
   rw[e];go_enter func62,ntmps62;go_wp2_with(first|(with_reducible refine qG hI RF OM ?_);intro c w hI|with_reducible refine rH RF ?_|(with_reducible refine bX (cs:=[.chan (some c)]) hI RF ?_);intro pb w hI);go_ret;exact⟨pb,rfl,c,EN hI⟩
theorem ac_(w0 pb c cap qs)(hs:(oJ pb c cap qs).sat w0)(hfull:cap<=qs.length)(a cp)(bs:List UInt8)(hr:Rd w0 a (bs.map bv))(hl:bs.length<=100000):
  Calls prog 110 #[.pointer (some ⟨pb,0,none⟩),.slice a bs.length cp] w0 λe w'=>e=.returned (.bool false)∧Below w0.heap.size w0 w':=by
 obtain⟨h1,⟨s,r,h2⟩,h3⟩:=hs
 grind[A.PX]
end A
namespace A
open Go.RowKit Go.Conc
theorem YP(w0 pb c cap qs)(hs:(oJ pb c cap qs).sat w0)(h0:qs.length=0∨(qs.length≠0∧qs.length=cap)):
  Calls prog 73 #[.pointer (some ⟨pb,0,none⟩)] w0 λe w'=>e=.returned (.bool false)∧w'=w0:=by
 obtain⟨h1,⟨s,r,hch⟩,h3⟩:=id hs;have hcell:w0.cell? ⟨pb,0,none⟩=some (.chan (some c)):=by simp[World.cell?,h1]
 rcases h0 with h0| ⟨h0,h2⟩
 ·have e1:((qs.length:Int)==0)=true:=by simp[h0]
  go_enter func73,ntmps73;go_wp2_with(go_at_call 72;refine KR (Kb _ pb c cap qs hs) ?_);go_ret;exact⟨rfl,rfl⟩
 ·have e1:((qs.length:Int)==0)=false:=by simp;exact λh=>h0 (by rw[h];rfl)
  have e2:((qs.length:Int)==(cap:Int))=true:=by simp[h2]
  clear h0 h2;go_enter func73,ntmps73;go_wp2_with(first|refine YL ?_|go_at_call 72;refine KR (Kb _ pb c cap qs hs) ?_|with_reducible refine vT underlying181 RF hch ?_);go_ret;exact⟨rfl,rfl⟩
def alj(w0:World)(pb c cap:Nat)(qs:List (Option Addr×Nat×List UInt8))(j:Nat)(w:World):Prop:=
 ∃s r,Step [c] w0 w∧w.heap[c]? =some (.chan cap ((qs.drop j++qs.take j).map qv).toArray false s r false)∧w.cell? ⟨pb,0,none⟩=some (.chan (some c))
def alk(w0:World)(pb c cap:Nat)(qs:List (Option Addr×Nat×List UInt8))(q0:Option Addr×Nat×List UInt8)(a:Act)(w:World):Prop:=
 ∃(j:Nat) (f4 s5 s6 s22 s23 s24 s25 s26 s27 s28 s29 s30 s31 s32 s33 s34 s35 s36 s37:Value),j<=qs.length∧a=(⟨#[.pointer (some ⟨pb,0,none⟩),undef,.bool false,.int .i64 qs.length,f4,s5,s6,.pointer (some ⟨pb,0,none⟩),.int .i64 qs.length,.int .i64 qs.length,.bool false,.bool false,.int .i64 qs.length,.pointer (some ⟨pb,0,none⟩),.pointer (some ⟨pb,0,none⟩),.pointer (some ⟨pb,0,none⟩),.chan (some c),.int .i64 cap,.bool false,.bool false,.int .i64 qs.length,.int .i64 (j:Nat),s22,s23,s24,s25,s26,s27,s28,s29,s30,s31,s32,s33,s34,s35,s36,s37,undef,undef,undef],[]⟩:Act)∧f4=(if j=0 then .slice none 0 0 else qv q0)∧alj w0 pb c cap qs j w
theorem alm(x:Value)(l):(x::l).toArray.extract 1=l.toArray:=by simp
theorem ajy(l q):(l.map qv).toArray.push (qv q)=((l++[q]).map qv).toArray:=by simp
theorem _root_.Go.Proofs.YtdakkaapokhnnaaGreatDoor.Inv.after{T w0 w w' m}(h:Inv T w w' m)(hs:Step T w0 w):Inv T w0 w' m:=
 ⟨h.os.trans hs.os,h.tape.trans hs.tape,h.output.trans hs.output,Nat.le_trans hs.size h.size,λk hk Um=>(h.old k (Nat.lt_of_lt_of_le hk hs.size) Um).trans (hs.same k hk Um),h.sat,λk hk=>by
  have:=h.mine k hk;refine⟨?_,this.2⟩;rcases this.1 with h1|h1
  ·exact .inl (Nat.le_trans hs.size h1)
  grind,h.apart⟩
theorem Va{w:World}{pb c pb' cap s r buf}(h:w.cell? ⟨pb,0,none⟩=some (.chan (some c)))(hc:w.heap[pb']? =some (.chan cap buf false s r false)):pb≠pb':=by
 rintro rfl;simp[World.cell?,hc]at h
theorem EO{w:World}{pb c cap s r buf}(h:w.cell? ⟨pb,0,none⟩=some (.chan (some c)))(hne:pb≠c):(w.setChan c cap buf false s r false).cell? ⟨pb,0,none⟩=some (.chan (some c)):=by
 have:(w.setChan c cap buf false s r false).heap[pb]? =w.heap[pb]? :=by
  simp only[World.setChan]
  grind
 simp only[World.cell?,this]at h|-;exact h
theorem PY(w0 pb c cap q0 qs')(hs:(oJ pb c cap (q0::qs')).sat w0)(hn:(oJ pb c cap (q0::qs')).own.Nodup)(h2:(q0::qs').length <cap)(hcap:cap<=64)(hl:q0.2.2.length<=100000):
  Calls prog 73 #[.pointer (some ⟨pb,0,none⟩)] w0 λe w'=>e=.returned (.bool true)∧∃a1 c1,Inv (oJ pb c cap (q0::qs')).own w0 w' [oJ pb c cap ((q0::qs')++[(a1,c1,q0.2.2)])]:=by
 obtain⟨qs,hqs⟩:=EQ (q0::qs');have hq0:qs[0]? =some q0:=by rw[<-hqs];rfl
 rw[hqs]at hs hn h2|-;have h0:qs.length≠0:=by rw[<-hqs];simp
 clear hqs;obtain⟨a0,c0,GN⟩:=q0;have hI0:=Ah hs hn;obtain⟨h1,⟨s,r,hch⟩,h3⟩:=id hs;have hcell:w0.cell? ⟨pb,0,none⟩=some (.chan (some c)):=by simp[World.cell?,h1]
 have hne:=Va hcell hch;have e1:((qs.length:Int)==0)=false:=by simp;exact λh=>h0 (by rw[h];rfl)
 have e2:((qs.length:Int)==(cap:Int))=false:=by simp;omega
 refine qP func73 rfl ?_;simp only[ntmps73,List.size_toArray,List.length_cons,List.length_nil,Nat.reduceAdd,Nat.reduceSub,Array.replicate_succ,Array.replicate_zero,List.push_toArray,List.append_toArray,List.nil_append,List.cons_append];refine mH.seq (mH.of ?_)
 go_wp2
 refine mH.seq (mH.of ?_);go_wp2_with(go_at_call 72;refine KR (Kb _ pb c cap qs hs) ?_);refine mH.seq (mH.of ?_);go_wp2_with(first|refine YL ?_|with_reducible refine vT underlying181 RF hch ?_);refine mH.seq (mH.of ?_)
 go_wp2
 refine mH.seq (mH.seq (mH.of ?_))
 go_wp2
 refine mH.block ?_;refine mH.loop (alk w0 pb c cap qs (a0,c0,GN)) (λa _=>qs.length- (intOf (a.tmps.getD 21 undef)).toNat) ?_ ?_
 ·exact⟨0,_,_,_,_,_,_,_,_,_,_,_,_,_,_,_,_,_,_,_,by omega,rfl,by rw[if_pos rfl],s,r,Step.refl _ _,by simpa using hch,hcell⟩
 ·rintro a w ⟨j,f4,s5,s6,s22,s23,s24,s25,s26,s27,s28,s29,s30,s31,s32,s33,s34,s35,s36,s37,hj,rfl,hf,sj,rj,hst,hcj,hcl⟩
  replace hf:=HD hf;refine mH.seq (mH.of ?_);have amn:(j:Int) <64:=by omega
  by_cases hlj:j<qs.length
  ·go_wp2
   refine mH.seq (mH.of ?_)
   go_wp2
   refine mH.seq (mH.block ?_);refine mH.seq (mH.of ?_)
   go_wp2
   refine mH.seq (mH.region ?_);refine lH.agw (r:=[4,5]) 4 ?_;simp only[List.take_succ_cons,List.take_zero]
   go_wp2
   have hz:=ac7 w;have hd:qs.drop j=qs[j]::qs.drop (j+1):=List.drop_eq_getElem_cons hlj;have agy:w.heap[c]? =some (.chan cap (qv qs[j]::(qs.drop (j+1)++qs.take j).map qv).toArray false sj rj false):=by rw[hcj,hd];rfl
   clear hcj;refine lH.comm (i:=4) (rest:=List.range' 5 1) rfl rfl (cases:= #[rcase c (.slice none 0 0)]) (blocking:=true) (shape:=.recv false) (by simp[execOp,rcase,Act.eval,Sem.run_bind,run_underlying underlying181,hz,Result.andThen]) (λfr cs es h=>step_lone_recv_buf false h agy SI) ?_;refine lH.list 5 _ rfl ?_;have q1:got false ((qv qs[j]::(qs.drop (j+1)++qs.take j).map qv).toArray.getD 0 undef) true=qv qs[j]:=by simp[got]
   have q2:(qv qs[j]::(qs.drop (j+1)++qs.take j).map qv).toArray.extract 1=((qs.drop (j+1)++qs.take j).map qv).toArray:=alm _ _;rw[q1,q2];have hlt:=(Array.getElem?_eq_some_iff.1 agy).1;have st1:=oI w c cap ((qs.drop (j+1)++qs.take j).map qv).toArray false sj (rj+1) false;have hc1:=heap_setChan w c cap ((qs.drop (j+1)++qs.take j).map qv).toArray false sj (rj+1) false hlt;have ada:=EO (cap:=cap) (s:=sj) (r:=rj+1) (buf:=((qs.drop (j+1)++qs.take j).map qv).toArray) hcl hne;generalize w.setChan c cap ((qs.drop (j+1)++qs.take j).map qv).toArray false sj (rj+1) false=w1 at*;have WX:=hst.trans st1;clear hst st1 agy hcl hlt hz q1 q2
   (simp only[List.drop_succ_cons,List.drop_zero,Act.put,List.setIfInBounds_toArray,QG,QS,goInt])
   go_wp2
   refine mH.seq (mH.of ?_);by_cases hj0:j=0
   ·subst hj0
    have hjq:qv qs[0]=qv (a0,c0,GN):=by
     have:=List.getElem?_eq_getElem hlj;rw[hq0]at this;rw[<-Option.some.inj this]
    replace hjq:=HD hjq
    go_wp2
    refine mH.region ?_;refine lH.agw (r:=[5]) 5 ?_;simp only[List.take_succ_cons,List.take_zero]
    go_wp2
    refine lH.comm (i:=5) (rest:=List.range' 6 0) rfl rfl (cases:= #[scase c (qv qs[0]) (.tuple #[])]) (blocking:=true) (shape:=.send) (by simp[execOp,scase,Act.eval]) (λfr cs es h=>step_lone_send_room h hc1 (by simp;omega)) ?_;refine lH.list 6 _ rfl ?_;have q3:((qs.drop (0+1)++qs.take 0).map qv).toArray.push (qv qs[0])=((qs.drop (0+1)++qs.take (0+1)).map qv).toArray:=by
     rw[ajy,List.append_assoc,<-List.take_succ_eq_append_getElem hlj]
    rw[q3];have hlt1:=(Array.getElem?_eq_some_iff.1 hc1).1;have st2:=oI w1 c cap ((qs.drop (0+1)++qs.take (0+1)).map qv).toArray false (sj+1) (rj+1) false;have hc2:=heap_setChan w1 c cap ((qs.drop (0+1)++qs.take (0+1)).map qv).toArray false (sj+1) (rj+1) false hlt1;have agz:=EO (cap:=cap) (s:=sj+1) (r:=rj+1) (buf:=((qs.drop (0+1)++qs.take (0+1)).map qv).toArray) ada hne;generalize w1.setChan c cap ((qs.drop (0+1)++qs.take (0+1)).map qv).toArray false (sj+1) (rj+1) false=w2 at*;have acQ:=WX.trans st2;clear st2 WX hc1 ada hlt1 q3
    (simp only[List.drop_succ_cons,List.drop_zero,Act.put,List.setIfInBounds_toArray,QG,QS,goInt])
    go_wp2
    refine mH.of ?_
    go_wp2
    refine⟨⟨0+1,_,_,_,_,_,_,_,_,_,_,_,_,_,_,_,_,_,_,_,by omega,(by rfl),?_,sj+1,rj+1,acQ,hc2,agz⟩,?_⟩
    ·rw[if_neg OM];exact hjq.out
    ·simp[intOf];omega
   ·have hb0:((j:Int)==0)=false:=by simp;omega
    have hf:=hf.out;rw[if_neg hj0]at hf
    go_wp2
    refine mH.region ?_;refine lH.agw (r:=[5]) 5 ?_;simp only[List.take_succ_cons,List.take_zero]
    go_wp2
    refine lH.comm (i:=5) (rest:=List.range' 6 0) rfl rfl (cases:= #[scase c (qv qs[j]) (.tuple #[])]) (blocking:=true) (shape:=.send) (by simp[execOp,scase,Act.eval]) (λfr cs es h=>step_lone_send_room h hc1 (by simp;omega)) ?_;refine lH.list 6 _ rfl ?_;have q3:((qs.drop (j+1)++qs.take j).map qv).toArray.push (qv qs[j])=((qs.drop (j+1)++qs.take (j+1)).map qv).toArray:=by
     rw[ajy,List.append_assoc,<-List.take_succ_eq_append_getElem hlj]
    rw[q3];have hlt1:=(Array.getElem?_eq_some_iff.1 hc1).1;have st2:=oI w1 c cap ((qs.drop (j+1)++qs.take (j+1)).map qv).toArray false (sj+1) (rj+1) false;have hc2:=heap_setChan w1 c cap ((qs.drop (j+1)++qs.take (j+1)).map qv).toArray false (sj+1) (rj+1) false hlt1;have agz:=EO (cap:=cap) (s:=sj+1) (r:=rj+1) (buf:=((qs.drop (j+1)++qs.take (j+1)).map qv).toArray) ada hne;generalize w1.setChan c cap ((qs.drop (j+1)++qs.take (j+1)).map qv).toArray false (sj+1) (rj+1) false=w2 at*;have acQ:=WX.trans st2;clear st2 WX hc1 ada hlt1 q3
    (simp only[List.drop_succ_cons,List.drop_zero,Act.put,List.setIfInBounds_toArray,QG,QS,goInt])
    go_wp2
    refine mH.of ?_
    go_wp2
    refine⟨⟨j+1,_,_,_,_,_,_,_,_,_,_,_,_,_,_,_,_,_,_,_,by omega,(by rfl),?_,sj+1,rj+1,acQ,hc2,agz⟩,?_⟩
    ·rw[if_neg OM]
    ·simp[intOf];omega
  ·obtain rfl:j=qs.length:=by omega
   go_wp2
   refine mH.seq (mH.of ?_)
   go_wp2
   have hf:=hf.out;rw[if_neg h0]at hf;subst hf;have G6:(oJ pb c cap qs).sat w:=by
    refine⟨?_,⟨sj,rj,by rw[hcj];simp⟩,λx hx=>?_⟩
    ·rw[hst.same pb (hI0.mine pb (by simp[owned,oJ])).2 (by simpa using hne)];exact h1
    ·refine x.loc w0 w (λk hk=>hst.same k (hI0.mine k (by simp only[owned,List.flatMap_cons,List.flatMap_nil,List.append_nil];exact List.mem_cons_of_mem _ (List.mem_cons_of_mem _ (fT.2 ⟨x,hx,hk⟩)))).2 ?_) (h3 x hx)
     have hnd:=hn;simp only[oJ,List.nodup_cons]at hnd;simp only[List.mem_singleton];rintro rfl;exact hnd.2.1 (fT.2 ⟨x,hx,hk⟩)
   have hmem:qr (a0,c0,GN)∈qs.map qr:=List.mem_map.2 ⟨_,List.mem_of_getElem? hq0,rfl⟩;have hrd:Rd w a0 (GN.map bv):=DW (G6.2.2 _ hmem);have aln:Step (oJ pb c cap qs).own w0 w:=hst.mono (λk hk=>by obtain rfl:=List.mem_singleton.1 hk;simp[oJ]);simp only[qv];refine mH.of ?_;go_wp2_with(go_at_call 110;refine(Ka _ pb c cap qs G6 hn OM a0 c0 GN hrd hl).mono ?_;rintro e w1 ⟨rfl,a1,c1,hJ⟩);go_ret;exact⟨rfl,a1,c1,hJ.after aln⟩
end A
namespace A
abbrev QE:=Option Addr×Nat×List UInt8
def bU:List Nat:=[1,2,3,4,5,7,8,9,10,11,13,14,15,16,17,19,20,21,22,23]
theorem PZ:bU.Nodup:=by decide
theorem rJ{i}(h:i<25)(h6:i%6≠0):i∈bU:=by
 have:∀i<25,i%6≠0->i∈bU:=by decide
 grind
theorem adb{i}(h:i∈bU):i<25∧i%6≠0:=by
 have:∀i∈bU,i<25∧i%6≠0:=by decide
 grind
def j3(n:Nat):List Nat:=bU.filter (· <n)
theorem YQ:j3 0=[]:=by decide
theorem Vb:j3 25=bU:=by decide
theorem MH{j}(h:j<25)(h6:j%6≠0):j3 (j+1)=j3 j++[j]:=by
 have:∀j<25,j%6≠0->j3 (j+1)=j3 j++[j]:=by decide
 grind
theorem MI{j}(h:j<25)(h6:j%6=0):j3 (j+1)=j3 j:=by
 have:∀j<25,j%6=0->j3 (j+1)=j3 j:=by decide
 grind
theorem Ik{j i}(h:i∈j3 j):i<j:=by
 simpa using(List.mem_filter.1 h).2
def jv(pb:Nat->Nat)(n i:Nat):Value:=if i%6=0∨n<=i then .pointer none else .pointer (some ⟨pb i,0,none⟩)
def dP(pb:Nat->Nat)(n:Nat):List Value:=(List.range 25).map (jv pb n)
theorem qi(pb n):(dP pb n).length=25:=by simp[dP]
theorem sP(pb n){i}(h:i<25):(dP pb n)[i]? =some (jv pb n i):=by
 simp[dP,h]
theorem Kc(pb){j}(h6:j%6=0):dP pb (j+1)=dP pb j:=by
 grind[A.dP,List.map_congr_left,A.jv]
theorem MJ(pb){j}(h:j<25)(h6:j%6≠0)(b):splice (dP pb j) j [.pointer (some ⟨b,0,none⟩)]=dP (gV pb j b) (j+1):=by
 have hs:splice (dP pb j) j [.pointer (some ⟨b,0,none⟩)]=(dP pb j).set j (.pointer (some ⟨b,0,none⟩)):=by
  simp_all[List.set_eq_take_append_cons_drop,A.qi,splice]
 rw[hs];refine List.ext_getElem? λi=>?_
 rw[List.getElem?_set];by_cases hi:j=i
 ·subst hi
  rw[if_pos rfl,if_pos (by grind[A.qi]),sP _ _ h];simp[jv,h6,gV]
 ·rw[if_neg hi]
  by_cases hi2:i<25
  ·rw[sP _ _ hi2,sP _ _ hi2]
   have:(j+1<=i)↔(j<=i):=by omega
   simp only[jv,this,gV,if_neg (λh=>hi h.symm:¬i=j)]
  grind[A.qi]
def qQ(pb c:Nat->Nat)(q:Nat->List QE)(i:Nat):bT:=oJ (pb i) (c i) 8 (q i)
def kE(e p:Nat)(pb c:Nat->Nat)(q:Nat->List QE):bT:=two (blk p e (dP pb 25)) (gY bU (qQ pb c q))
theorem ade(pb c q i)(v:List QE):oJ (pb i) (c i) 8 v=qQ pb c (gV q i v) i:=by unfold qQ;rw[bE]
theorem adf(pb c q i v):∀j∈bU,j≠i->qQ pb c (gV q i v) j=qQ pb c q j:=λj _ h=>by grind[A.qQ,bI]
end A
namespace A
open Go.RowKit Go.Conc
theorem afo:iY prog 128:=⟨by kernel_rfl,by kernel_rfl⟩
theorem EP(w0)(f:Nat)(hf:f<5):Calls prog 109 #[.int .i64 f] w0 λe w'=>e=.returned (.bool true)∧w'=w0:=by
 have h1:(0:Int)<=(f:Int):=by omega
 have h2:(f:Int) <5:=by omega
 go_enter func109,ntmps109;go_wp2_with fail;go_ret;exact⟨rfl,rfl⟩
theorem SV(w0 z)(hz:¬(0<=z∧z<5)):Calls prog 109 #[.int .i64 z] w0 λe w'=>e=.returned (.bool false)∧w'=w0:=by
 by_cases h1:0<=z
 ·have h2:decide (z<5)=false:=by simp;omega
  have h3:¬z<5:=by omega
  clear hz;go_enter func109,ntmps109;go_wp2_with(refine YL ?_);go_ret;exact⟨by simp[h3],rfl⟩
 ·have h3:decide (0<=z)=false:=by simp;omega
  clear hz;go_enter func109,ntmps109;go_wp2_with(fail);go_ret;exact⟨by simp[h1],rfl⟩
theorem agA(w0 v f t)(h:¬(0<=f∧f<5∧0<=t∧t<5)):Calls prog 71 #[v,.int .i64 f,.int .i64 t] w0 λe w'=>e=.returned (.pointer none)∧w'=w0:=by
 by_cases hf:0<=f∧f<5
 ·have ht:¬(0<=t∧t<5):=λht=>h ⟨hf.1,hf.2,ht.1,ht.2⟩
  obtain⟨f,rfl⟩:∃k:Nat,f=k:=⟨f.toNat,by omega⟩;have hf0:f<5:=by omega
  clear h hf;go_enter func71,ntmps71;go_wp2_with(first|refine YL ?_|go_at_call 109;refine KR (SV _ _ ht) ?_|go_at_call 109;refine KR (EP _ f hf0) ?_);go_ret;exact⟨rfl,rfl⟩
 ·clear h
  go_enter func71,ntmps71;go_wp2_with(go_at_call 109;refine KR (SV _ _ hf) ?_);go_ret;exact⟨rfl,rfl⟩
theorem vz{T w00 m}(w0 p pb)(f t:Nat)(hf0:f<5)(ht0:t<5)(hI:Inv T w00 w0 (blk p 132 (dP pb 25)::m)):
  Calls prog 71 #[.pointer (some ⟨p,0,none⟩),.int .i64 f,.int .i64 t] w0 λe w'=>e=.returned (jv pb 25 (f*5+t))∧w'=w0:=by
 have hcell:(dP pb 25)[f*5+t]? =some (jv pb 25 (f*5+t)):=sP _ _ OM;generalize jv pb 25 (f*5+t)=v at hcell;go_enter func71,ntmps71;go_wp2_with(first|refine YL ?_|go_at_call 109;refine KR (EP _ t ht0) ?_|go_at_call 109;refine KR (EP _ f hf0) ?_|with_reducible refine aW hI RF aC afo hcell ?_);go_ret;exact⟨rfl,rfl⟩
end A
namespace A
open Go.RowKit Go.Conc
section
variable {T:List Nat}{w0 w w':World}{m m':List bT}{p:Nat}{pb c:Nat->Nat}{q:Nat->List QE}{i:Nat}{v:List QE}
theorem yE(h:Inv T w0 w (kE 132 p pb c q::m)):Inv T w0 w (blk p 132 (dP pb 25)::gY bU (qQ pb c q)::m):=h.dR
theorem YR(h:Inv T w0 w (blk p 132 (dP pb 25)::gY bU (qQ pb c q)::m)):Inv T w0 w (kE 132 p pb c q::m):=h.eX
theorem Vd(h:Inv T w0 w (kE 132 p pb c q::m))(hi:i∈bU):Inv T w0 w (oJ (pb i) (c i) 8 (q i)::blk p 132 (dP pb 25)::gY (bU.erase i) (qQ pb c q)::m):=
 (yE h).pull hi (aU.there aU.here)
theorem Ve(h:Inv T w0 w (oJ (pb i) (c i) 8 v::blk p 132 (dP pb 25)::gY (bU.erase i) (qQ pb c q)::m))(hi:i∈bU):Inv T w0 w (kE 132 p pb c (gV q i v)::m):=
 YR (h.push PZ hi (ade pb c q i v) (adf pb c q i v) (aU.there aU.here))
end
theorem nH(pb){i}(hi:i∈bU):jv pb 25 i=.pointer (some ⟨pb i,0,none⟩):=by
 simp_all[A.adb,A.jv]
theorem YU(w0 p pb c q)(f t i:Nat)(hf0:f<5)(ht0:t<5)(hi:i=f*5+t)(hne:f≠t)(h:Inv (kE 132 p pb c q).own w0 w0 [kE 132 p pb c q])(a cp bs)(hr:Rd w0 a (bs.map bv))(hl:bs.length<=100000)(hroom:(q i).length <8):
  Calls prog 211 #[.pointer (some ⟨p,0,none⟩),.int .i64 f,.int .i64 t,.slice a bs.length cp] w0 λe w'=>e=.returned (.bool true)∧∃a1 c1,Inv (kE 132 p pb c q).own w0 w' [kE 132 p pb c (gV q i (q i++[(a1,c1,bs)]))]:=by
 have wz:i∈bU:=rJ OM OM;have hcv:jv pb 25 (f*5+t)=.pointer (some ⟨pb i,0,none⟩):=by rw[<-hi];exact nH pb wz
 clear hi;have hI:=yE h;go_enter func211,ntmps211;go_upto_region 2 with(go_at_call 71;refine KR (vz _ p pb f t hf0 ht0 hI) ?_;rw[hcv])
 replace hI:=Vd h wz;clear h hcv;go_wp2_with(first|refine YL ?_|go_at_call 110;with_reducible refine(Ka _ (pb i) (c i) 8 (q i) (hI.sat _ aC) (hI.nd aC) hroom _ _ bs hr hl).mono ?_;rintro e w1 ⟨rfl,a1,c1,hJ⟩;replace hI:=hI.on hJ aU.here;clear hJ);go_ret;exact⟨rfl,a1,c1,Ve hI wz⟩
theorem Vf(w0 p pb c q)(f t i:Nat)(hf0:f<5)(ht0:t<5)(hi:i=f*5+t)(hne:f≠t)(h:Inv (kE 132 p pb c q).own w0 w0 [kE 132 p pb c q])(a cp)(bs:List UInt8)(hr:Rd w0 a (bs.map bv))(hl:bs.length<=100000)(hroom:8<=(q i).length):
  Calls prog 211 #[.pointer (some ⟨p,0,none⟩),.int .i64 f,.int .i64 t,.slice a bs.length cp] w0 λe w'=>e=.returned (.bool false)∧Below w0.heap.size w0 w':=by
 have wz:i∈bU:=rJ OM OM;have hcv:jv pb 25 (f*5+t)=.pointer (some ⟨pb i,0,none⟩):=by rw[<-hi];exact nH pb wz
 clear hi;have hI:=yE h;go_enter func211,ntmps211;go_upto_region 2 with(go_at_call 71;refine KR (vz _ p pb f t hf0 ht0 hI) ?_;rw[hcv])
 replace hI:=Vd h wz;clear h hcv;go_wp2_with(first|refine YL ?_|go_at_call 110;with_reducible refine(ac_ _ (pb i) (c i) 8 (q i) (hI.sat _ aC) hroom _ _ bs hr hl).mono ?_;rintro e w1 ⟨rfl,hB⟩);go_ret;exact⟨rfl,hB⟩
theorem afp(w0 p pb c q){i}(wz:i∈bU)(h:Inv (kE 132 p pb c q).own w0 w0 [kE 132 p pb c q])(a0 c0 b0)(qt:List QE)(hq:q i=(a0,c0,b0)::qt):
  Calls prog 111 #[.pointer (some ⟨pb i,0,none⟩)] w0 λe w'=>e=.returned (.tuple #[.slice a0 b0.length c0,.bool true])∧Inv (kE 132 p pb c q).own w0 w' [bD 5 1 (.slice a0 b0.length c0) b0.length (b0.map bv),kE 132 p pb c (gV q i qt)]:=by
 have hI:=Vd h wz;rw[hq]at hI;refine(SS w0 (pb i) (c i) 8 a0 c0 b0 qt (hI.sat _ aC) (hI.nd aC)).mono ?_;rintro e w1 ⟨rfl,hJ⟩;refine⟨rfl,?_⟩;have h2:=hI.Uu hJ aU.here;have h3:=h2.turn (m':=oJ (pb i) (c i) 8 qt::blk p 132 (dP pb 25)::gY (bU.erase i) (qQ pb c q)::[bD 5 1 (.slice a0 b0.length c0) b0.length (b0.map bv)]) (λhs y hy=>hs y (by grind)) (by
  grind[owned])
 have h4:=Ve h3 wz;exact h4.turn (λhs y hy=>hs y (by grind)) (by
  grind[owned])
theorem YW(w0 p pb c q){i}(wz:i∈bU)(h:(kE 132 p pb c q).sat w0):
  Calls prog 72 #[.pointer (some ⟨pb i,0,none⟩)] w0 λe w'=>e=.returned (.int .i64 (q i).length)∧w'=w0:=
 Kb w0 (pb i) (c i) 8 (q i) (h.2 i wz)
end A
namespace A
open Go.RowKit Go.Conc
theorem alo:ME 8=8:=by decide
theorem agB:(prog.info? 132).map (·.zero)=some (some (.agg (dP (λ_=>0) 0).toArray)):=by kernel_rfl
theorem alp:iH prog 132:=by unfold iH;kernel_rfl
section
variable {P:Program}{ops:Array Oper}{Q:Exit->Act->World->Prop}{a:Act}{rest:List Oper}{w:World}{dst:Option Tmp}{ty:TypeId}{pos:String}{af:Array Edge}
theorem CV{t z}{cs:List Value}(hz:(P.info? t).map (·.zero)=some (some z))(hc:z.cells=cs.toArray)(hK:iH P t)(k:wpList P ops Q rest (a.put dst (.agg cs.toArray)) w):wpList P ops Q (⟨dst,.build t #[],ty,pos,af,none⟩::rest) a w:=by
 refine av ?_ k;unfold gu execOp;simp only[Array.map_empty,Sem.run_bind,uY hz hc hK,Result.andThen_ok];rfl
end
theorem Vg(pb c j SX cn):oJ SX cn 8 []=qQ (gV pb j SX) (gV c j cn) (λ_=>[]) j:=by grind[A.qQ,bE]
theorem Ke(pb c j SX cn):∀i∈j3 j,qQ (gV pb j SX) (gV c j cn) (λ_=>[]) i=qQ pb c (λ_=>[]) i:=λi hi=>by
 have:=Ik hi
 grind[A.qQ,bI]
theorem YY(j):j∉j3 j:=λh=>Nat.lt_irrefl _ (Ik h)
theorem adg{w0 w p pb c j SX cn}(hj:j<25)(h6:j%6≠0)(hI:Inv [] w0 w [oJ SX cn 8 [],blk p 132 (splice (dP pb j) j [.pointer (some ⟨SX,0,none⟩)]),gY (j3 j) (qQ pb c (λ_=>[]))]):
  Inv [] w0 w [blk p 132 (dP (gV pb j SX) (j+1)),gY (j3 (j+1)) (qQ (gV pb j SX) (gV c j cn) (λ_=>[]))]:=by
 rw[MJ _ hj h6]at hI;rw[MH hj h6];exact hI.more (YY j) (Vg pb c j SX cn) (Ke pb c j SX cn) (aU.there aU.here)
theorem YZ{w0 w p pb c j}(hj:j<25)(h6:j%6=0)(hI:Inv [] w0 w [blk p 132 (dP pb j),gY (j3 j) (qQ pb c (λ_=>[]))]):
  Inv [] w0 w [blk p 132 (dP pb (j+1)),gY (j3 (j+1)) (qQ pb c (λ_=>[]))]:=by
 grind[A.Kc,A.MI]
theorem Vh{w0 w p}(hI:Inv [] w0 w [blk p 132 (dP (λ_=>0) 0)]):Inv [] w0 w [blk p 132 (dP (λ_=>0) 0),gY (j3 0) (qQ (λ_=>0) (λ_=>0) (λ_=>[]))]:=by
 rw[YQ];exact(hI.afW (qQ (λ_=>0) (λ_=>0) (λ_=>[]))).turn (λhs y hy=>hs y (by grind)) (by grind[owned])
theorem adh(w0):Calls prog 35 #[] w0 λe w'=>∃p pb c,e=.returned (.pointer (some ⟨p,0,none⟩))∧Inv [] w0 w' [kE 132 p pb c (λ_=>[])]:=by
 have hI:=Inv.start w0;go_enter func35,ntmps35;go_upto_region 3 with(first|with_reducible refine CV (cs:=dP (λ_=>0) 0) agB rfl alp ?_|(with_reducible refine bX (cs:=dP (λ_=>0) 0) hI RF ?_);intro p w hI)
 replace hI:=Vh hI
 go_loopg [2,3,6,9] 5 (λkk s2 s3 i s9 wr=>∃(f:Nat) (pb c:Nat->Nat),kk=5-f∧f<=5∧i=.int .i64 f∧Inv [] w0 wr [blk p 132 (dP pb (f*5)),gY (j3 (f*5)) (qQ pb c (λ_=>[]))])
 case atStart=>exact⟨0,_,_,by omega,by omega,rfl,hI⟩
 case round=>
  clear hI;obtain⟨f,pb,c,rfl,hf,rfl,hI⟩:=hrel;by_cases uR:f<5
  ·have hfi:(f:Int) <5:=by omega
   go_upto_region 6 with(fail)
   go_loopg [3,9] 5 (λkk s3 i wr=>∃(t:Nat) (pb c:Nat->Nat),kk=5-t∧t<=5∧i=.int .i64 t∧Inv [] w0 wr [blk p 132 (dP pb (f*5+t)),gY (j3 (f*5+t)) (qQ pb c (λ_=>[]))])
   case atStart=>exact⟨0,_,_,by omega,by omega,rfl,hI⟩
   case round=>
    clear hI;obtain⟨t,pb,c,rfl,ht,rfl,hI⟩:=hrel;by_cases pX:t<5
    ·have hti:(t:Int) <5:=by omega
     by_cases hft:f=t
     ·have hbe:((f:Int)==(t:Int))=true:=by simp[hft]
      have h6:(f*5+t) %6=0:=by omega
      have hj:f*5+t<25:=by omega
      clear hft;go_wp2_with(fail);go_roundg (5- (t+1))
      case measure=>omega
      case rel=>exact⟨t+1,pb,c,by omega,by omega,by go_num,YZ hj h6 hI⟩
     ·have hbe:((f:Int)==(t:Int))=false:=by simp;omega
      have h6:(f*5+t) %6≠0:=by omega
      have hj:f*5+t<25:=by omega
      clear hft;go_upto_region 9 with(fail)
      refine wp_region_any KF ?_;replace hI:=hI.drew;change wpAny _ _ _ _ _ _ _ (World.drew _);generalize hwd:World.drew _=w9 at hI|-;clear hwd;refine wpAny_take (i:=0) (v:=?_) rfl KF KF KF (λ_ _ _ h=>h) (Or.inl ⟨by rfl,?_⟩) ?_
      (rotate_left;focus(intro w;go_simp;with_reducible rfl))
      refine wpAny_take (i:=1) (v:=?_) rfl KF KF KF (λ_ _ _ h=>h) (Or.inl ⟨by rfl,?_⟩) ?_
      (rotate_left;focus(intro w;go_simp;with_reducible rfl))
      refine wpAny_take (i:=2) (v:=?_) rfl KF KF KF (λ_ _ _ h=>h) (Or.inl ⟨by rfl,?_⟩) ?_
      (rotate_left;focus(intro w;go_simp;with_reducible rfl))
      refine wpAny_take (i:=4) (v:=?_) rfl KF KF KF (λ_ _ _ h=>h) (Or.inl ⟨by rfl,?_⟩) ?_
      (rotate_left;focus(intro w;go_simp;with_reducible rfl))
      refine wpAny_take (i:=5) (v:=?_) rfl KF KF KF (λ_ _ _ h=>h) (Or.inl ⟨by rfl,?_⟩) ?_
      (rotate_left;focus(intro w;go_simp;with_reducible rfl))
      refine wpAny_take (i:=6) (v:=?_) rfl KF KF KF (λ_ _ _ h=>h) (Or.inl ⟨by rfl,?_⟩) ?_
      (rotate_left;focus(intro w;go_simp;with_reducible rfl))
      refine Sa (i:=3) KF ?_;refine Ht (i:=3) (by rfl) RF ?_;go_wp2_with(go_at_call 62;refine(agx _ 8).mono ?_;rintro e w1 ⟨SX,cn,rfl,hJ⟩;replace hI:=hI.seq hJ;rw[alo]at hI;simp only[List.cons_append,List.nil_append]at hI;clear hJ);refine bY ?_;refine wpAny_take (i:=7) (v:=?_) rfl KF KF KF (λ_ _ _ h=>h) (Or.inl ⟨by rfl,?_⟩) ?_
      (rotate_left;focus(intro w;go_simp;with_reducible rfl))
      refine Sa (i:=8) KF ?_;refine Ht (i:=8) (by rfl) RF ?_
      ((with_reducible refine aR (vs:=[.pointer (some ⟨SX,0,none⟩)]) hI RF RF (aU.there aU.here) afo.size rfl (by rw[qi];omega) (by simp[Value.oneCell']) ?_);intro w hI)
      refine bY ?_;refine wpAny_done KF ?_ _;go_wp2_with(fail);go_roundg (5- (t+1))
      case measure=>omega
      case rel=>exact⟨t+1,gV pb (f*5+t) SX,gV c (f*5+t) cn,by omega,by omega,by go_num,adg hj h6 hI⟩
    ·obtain rfl:t=5:=by omega
     go_wp2_with(fail);go_roundg (5- (f+1))
     case measure=>omega
     case rel=>exact⟨f+1,pb,c,by omega,by omega,by go_num,by rw[show(f+1)*5=f*5+5 by omega];exact hI⟩
  ·obtain rfl:f=5:=by omega
   go_wp2_with(fail);go_ret;refine⟨p,pb,c,rfl,?_⟩;have h:=hI;rw[show 5*5=25 from rfl,Vb]at h;exact YR h
end A
namespace C
section
variable {P:Program}{ops:Array Oper}{Q:Exit->Act->World->Prop}{a:Act}{rest:List Oper}{w:World}{dst:Option Tmp}{ty:TypeId}{pos:String}{af:Array Edge}
theorem EX{x}{t n b off:Nat}{e zs fr}(hb:w.heap[b]? =some (.cells (zs.map (Value.int .i64)).toArray e fr))(hx:a.eval x=.pointer (some ⟨b,off,none⟩))(hT:gm P t n)(hl:off+n<=zs.length)(k:wpList P ops Q rest (a.put dst (ia (sub zs off n))) w):wpList P ops Q (⟨dst,.load t x,ty,pos,af,none⟩::rest) a w:=by
 refine av (v:=ia (sub zs off n)) ?_ k;unfold gu execOp;simp only[hx,Instr.loadAt,Instr.sureAddr,Sem.run_bind,Sem.run_pure,Result.andThen_ok,iT hT hb off (by grind)];rw[<-List.map_drop,<-List.map_take];rfl
end
theorem yF(l j)(h:j<l.length):(l.take (j+1)).sum=(l.take j).sum+gi l j:=by
 grind[List.take_succ_eq_append_getElem,gi]
theorem EY(l:List Int)(M)(hM:0<=M)(h:∀g∈l,0<=g∧g<=M):∀j,j<=l.length->0<=(l.take j).sum∧(l.take j).sum<=j*M
 |0,_=>by simp
 |j+1,hj=>by
  have:=EY l M hM h j OM;have hg:=h _ (zb l j OM)
  grind[C.yF]
theorem Ir(w)(b off t tt:Nat)(x e)(hb:w.heap[b]? =some (.cells (x.map (Value.int .i64)).toArray e (0,0)))(ht:w.cell? ⟨t,0,none⟩=some (.int .i64 tt))(hto:tt<5)(hl:off+7<=x.length)(hg:∀g∈sub x (off+2) 5,MR g):
  Calls prog 148 #[.pointer (some ⟨b,off,none⟩),.pointer (some ⟨t,0,none⟩)] w λe w'=>e=.returned (.tuple #[.int .i64 (sub x (off+2) 5).sum,.pointer (some ⟨b,off+2+tt,none⟩)])∧Below w.heap.size w w':=by
 have hd:w.drew.cell? ⟨t,0,none⟩=some (.int .i64 tt):=ht;have hgl:(sub x (off+2) 5).length=5:=by rw[az];omega
 have hbd:=EY _ 1099511627776 OM hg;have hoff:off+2+5<=x.length:=by omega
 have amq:(tt:Int) <5:=by omega
 have hall:(sub x (off+2) 5).take 5=sub x (off+2) 5:=List.take_of_length_le OM;have hst:=λj h=>yF (sub x (off+2) 5) j h
 clear hg;go_enter func148,ntmps148;go_wp2_with(with_reducible refine EX hb RF afc OM ?_);generalize hl2:sub x (off+2) 5=l at*;replace hl2:=HD hl2;replace hst:=HD hst
 go_loopg [5,7,12] 5 (λkk s q i wr=>∃(j:Nat),kk=5-j∧j<=5∧i=.int .i64 j∧s=.int .i64 (l.take j).sum∧wr=w)
 case atStart=>exact⟨0,rfl,by omega,rfl,rfl,rfl⟩
 case round=>
  obtain⟨j,rfl,hj,rfl,rfl,hwr⟩:=hrel;rw[hwr];clear hwr;obtain⟨hb0,hb1⟩:=hbd j OM;by_cases GV:j<5
  ·have h1:=hst.out j OM
   obtain⟨hc0,hc1⟩:=hbd (j+1) OM;rw[h1]at hc0 hc1;have h2:=HD h1;have wL:(j:Int).toNat=j:=by simp
   clear h1 hbd;go_wp2_with(with_reducible refine vQ RF RF Xi pz OM OM OM ?_);go_roundg (5- (j+1))
   case measure=>omega
   case rel=>exact⟨j+1,rfl,by omega,by go_num,by rw[h2.out];(done),rfl⟩
  ·obtain rfl:j=5:=by omega
   clear hbd;go_wp2_with fail
   go_quiet (fail)
   go_wp2_with fail
   go_ret2
   rw[hl2.out];exact⟨by rw[hall];rfl,bdn _ _⟩
theorem MS(w0 x key n)(t tt:Nat)(hx:x.length=174)(hk:0<=key∧key<4)(hn:1<=n∧n<=1099511627776)(ht:w0.cell? ⟨t,0,none⟩=some (.int .i64 tt))(hto:tt<5)(hg:∀g∈sub x (1+key.toNat*7+2) 5,MR g)(hgt:1099511627776-n< (sub x (1+key.toNat*7+2) 5).sum):
  Calls prog 145 #[ia x,.int .i64 key,.int .i64 n,.func (.func 148) #[] #[.pointer (some ⟨t,0,none⟩)]] w0 λe w'=>e=.returned (.tuple #[ia (au 174),.int .i64 6])∧Below w0.heap.size w0 w':=by
 have hI:=Inv.start w0;obtain⟨hk0,hk1⟩:=hk;replace hg:=HD hg;replace ht:=HD ht;go_enter func145,ntmps145;go_wp2_with(first|refine YX ?_;intro bx w hI|refine YL ?_|refine YS ?_;intro w hI|go_at_call 148;refine KD hI (Ir _ _ (1+key.toNat*7) t tt x _ (hI.ibk aM) (hI.cell ht.out) hto OM hg.out) ?_;intro w1 hI);exact XF
theorem xN(x key n tt)(hx:x.length=174):(mF x key n tt).1.length=174:=by
 grind[C.mF,ag,C.iw]
end C
namespace C
def jq(x:List Int)(i:Nat)(n:Int):List Int:=(x.set i (gi x i+n)).set 0 (wrap64 (gi x 0+1))
theorem Iu(x i n):(jq x i n).length=x.length:=by simp[jq]
def wW(x:List Int):Prop:=nG (cellsOf x)=true
theorem Aj{x}(hr:wW x)(k)(hk:k<4):MR (gi x (1+k*7))∧MR (gi x (1+k*7+1))∧(∀g∈sub x (1+k*7+2) 5,MR g)∧(sub x (1+k*7+2) 5).sum<=1099511627776:=by
 have h:=(jZ _ 4).1 hr k hk
 grind[C.xM,C.xL,sub,List.drop_take,List.drop_drop,gy]
theorem adr{x}(h:jm x=true):wW x:=(pY h).2.1
theorem Zl{x}(key f n)(hx:x.length=174)(hr:wW x)(hk:key<4)(hf:f<7)(hn:1<=n)(hc:cntF x key f<=1099511627776-n):wW (jq x (1+key*7+f) n):=by
 refine(jZ _ 4).2 λj hj=>?_
 have hcj:=(jZ _ 4).1 hr j hj;rw[xM _ j hj]at hcj|-;unfold jq;exact W42
theorem Vr(w0 x key n)(hx:x.length=174)(hk:0<=key∧key<4)(hn:1<=n∧n<=1099511627776)(hwf:-9223372036854775808<=gi x (1+key.toNat*7))(hgt:gi x (1+key.toNat*7)<=1099511627776-n):
  Calls prog 145 #[ia x,.int .i64 key,.int .i64 n,.func (.func 146) #[] #[]] w0 λe w'=>e=.returned (.tuple #[ia (jq x (1+key.toNat*7) n),.int .i64 0])∧Below w0.heap.size w0 w':=by
 have hI:=Inv.start w0;obtain⟨hk0,hk1⟩:=hk;have hg:∀u,gi (x.set (1+key.toNat*7) u) 0=gi x 0:=λu=>by simp[gi,List.getElem?_set]
 go_enter func145,ntmps145;go_wp2_with(first|refine YL ?_|refine YS ?_;intro w hI|refine YX ?_;intro bx w hI|go_at_call 146;refine KD hI (MB _ _ _ (gi x (1+key.toNat*7)) (sO hI aM OM)) ?_;intro w1 hI);exact W57
theorem Vt(w0 x key n)(hx:x.length=174)(hk:0<=key∧key<4)(hn:1<=n∧n<=1099511627776)(hwf:-9223372036854775808<=gi x (1+key.toNat*7+1))(hgt:gi x (1+key.toNat*7+1)<=1099511627776-n):
  Calls prog 145 #[ia x,.int .i64 key,.int .i64 n,.func (.func 147) #[] #[]] w0 λe w'=>e=.returned (.tuple #[ia (jq x (1+key.toNat*7+1) n),.int .i64 0])∧Below w0.heap.size w0 w':=by
 have hI:=Inv.start w0;obtain⟨hk0,hk1⟩:=hk;have hg:∀u,gi (x.set (1+key.toNat*7+1) u) 0=gi x 0:=λu=>by simp[gi,List.getElem?_set]
 go_enter func145,ntmps145;go_wp2_with(first|refine YL ?_|refine YS ?_;intro w hI|refine YX ?_;intro bx w hI|go_at_call 147;refine KD hI (MC _ _ _ (gi x (1+key.toNat*7+1)) (sO hI aM OM)) ?_;intro w1 hI);exact W57
theorem Qh(w0 x key n)(t tt:Nat)(hx:x.length=174)(hk:0<=key∧key<4)(hn:1<=n∧n<=1099511627776)(ht:w0.cell? ⟨t,0,none⟩=some (.int .i64 tt))(hto:tt<5)(hg:∀g∈sub x (1+key.toNat*7+2) 5,MR g)(hgt:(sub x (1+key.toNat*7+2) 5).sum<=1099511627776-n):
  Calls prog 145 #[ia x,.int .i64 key,.int .i64 n,.func (.func 148) #[] #[.pointer (some ⟨t,0,none⟩)]] w0 λe w'=>e=.returned (.tuple #[ia (jq x (1+key.toNat*7+2+tt) n),.int .i64 0])∧Below w0.heap.size w0 w':=by
 have hI:=Inv.start w0;obtain⟨hk0,hk1⟩:=hk;have hg0:∀u,gi (x.set (1+key.toNat*7+2+tt) u) 0=gi x 0:=λu=>by simp[gi,List.getElem?_set]
 have hgi:=hg _ (zb (sub x (1+key.toNat*7+2) 5) tt (by rw[az];omega));rw[gy _ _ _ _ hto]at hgi;obtain⟨amr,ams⟩:=hgi;replace hg:=HD hg;replace ht:=HD ht;go_enter func145,ntmps145;go_wp2_with(first|refine YL ?_|refine YS ?_;intro w hI|refine YX ?_;intro bx w hI|go_at_call 148;refine KD hI (Ir _ _ (1+key.toNat*7) t tt x _ (hI.ibk aM) (hI.cell ht.out) hto OM hg.out) ?_;intro w1 hI);exact W57
def lq(x:List Int)(i:Nat)(key n:Int):List Int×Int:=if oq key n=true then(if 1099511627776-n<gi x i then(au 174,6)else(jq x i n,0))else(au 174,5)
theorem uG(x i key n)(hx:x.length=174):(lq x i key n).1.length=174:=by
 grind[C.lq,ag,C.jq]
theorem ajC(w0 x key n)(hx:x.length=174)(hw:wW x):
  Calls prog 104 #[ia x,.int .i64 key,.int .i64 n] w0 λe w'=>e=.returned (.tuple #[ia (lq x (1+key.toNat*7) key n).1,.int .i64 (lq x (1+key.toNat*7) key n).2])∧Below w0.heap.size w0 w':=by
 have hI:=Inv.start w0;cases ha:oq key n
 ·rw[show lq x (1+key.toNat*7) key n=(au 174,5)from by simp[lq,ha]]
  go_enter func104,ntmps104;exact W77
 ·obtain⟨hk0,hk1,hn0,hn1⟩:=wQ ha
  by_cases hgt:1099511627776-n<gi x (1+key.toNat*7)
  ·rw[show lq x (1+key.toNat*7) key n=(au 174,6)from by simp[lq,ha,hgt]]
   go_enter func104,ntmps104;go_wp2_with(first|refine YL ?_|refine YS ?_;intro w hI|refine YX ?_;intro bx w hI|go_at_call 144;refine KR (nO _ _ _) ?_|go_at_call 145;refine KD hI (PU _ x key n hx ⟨hk0,hk1⟩ ⟨hn0,hn1⟩ hgt) ?_;intro w1 hI);exact XF
  ·rw[show lq x (1+key.toNat*7) key n=(jq x (1+key.toNat*7) n,0)from by simp[lq,ha,hgt]]
   have hm:(jq x (1+key.toNat*7) n).length=174:=by simp[jq,hx]
   have hle:gi x (1+key.toNat*7)<=1099511627776-n:=by omega
   have hc0:-9223372036854775808<=gi x (1+key.toNat*7):=by have:=(Aj hw key.toNat OM).1.1;omega
   clear hw;go_enter func104,ntmps104;go_wp2_with(first|refine YL ?_|refine YS ?_;intro w hI|refine YX ?_;intro bx w hI|go_at_call 144;refine KR (nO _ _ _) ?_|go_at_call 145;refine KD hI (Vr _ x key n hx ⟨hk0,hk1⟩ ⟨hn0,hn1⟩ hc0 hle) ?_;intro w1 hI);exact ai5
theorem ajD(w0 x key n)(hx:x.length=174)(hw:wW x):
  Calls prog 105 #[ia x,.int .i64 key,.int .i64 n] w0 λe w'=>e=.returned (.tuple #[ia (lq x (1+key.toNat*7+1) key n).1,.int .i64 (lq x (1+key.toNat*7+1) key n).2])∧Below w0.heap.size w0 w':=by
 have hI:=Inv.start w0;cases ha:oq key n
 ·rw[show lq x (1+key.toNat*7+1) key n=(au 174,5)from by simp[lq,ha]]
  go_enter func105,ntmps105;exact W77
 ·obtain⟨hk0,hk1,hn0,hn1⟩:=wQ ha
  by_cases hgt:1099511627776-n<gi x (1+key.toNat*7+1)
  ·rw[show lq x (1+key.toNat*7+1) key n=(au 174,6)from by simp[lq,ha,hgt]]
   go_enter func105,ntmps105;go_wp2_with(first|refine YL ?_|refine YS ?_;intro w hI|refine YX ?_;intro bx w hI|go_at_call 144;refine KR (nO _ _ _) ?_|go_at_call 145;refine KD hI (PW _ x key n hx ⟨hk0,hk1⟩ ⟨hn0,hn1⟩ hgt) ?_;intro w1 hI);exact XF
  ·rw[show lq x (1+key.toNat*7+1) key n=(jq x (1+key.toNat*7+1) n,0)from by simp[lq,ha,hgt]]
   have hm:(jq x (1+key.toNat*7+1) n).length=174:=by simp[jq,hx]
   have hle:gi x (1+key.toNat*7+1)<=1099511627776-n:=by omega
   have hc0:-9223372036854775808<=gi x (1+key.toNat*7+1):=by have:=(Aj hw key.toNat OM).2.1.1;omega
   clear hw;go_enter func105,ntmps105;go_wp2_with(first|refine YL ?_|refine YS ?_;intro w hI|refine YX ?_;intro bx w hI|go_at_call 144;refine KR (nO _ _ _) ?_|go_at_call 145;refine KD hI (Vt _ x key n hx ⟨hk0,hk1⟩ ⟨hn0,hn1⟩ hc0 hle) ?_;intro w1 hI);exact ai5
def mI(x:List Int)(key n tt:Int):List Int×Int:=
 if aL tt=true∧oq key n=true then(if 1099511627776-n< (sub x (1+key.toNat*7+2) 5).sum then(au 174,6)else(jq x (1+key.toNat*7+2+tt.toNat) n,0))else(au 174,5)
theorem xO(x key n tt)(hx:x.length=174):(mI x key n tt).1.length=174:=by
 grind[C.mI,ag,C.jq]
theorem agK(w0 x key n tt)(hx:x.length=174)(hr:wW x):
  Calls prog 106 #[ia x,.int .i64 key,.int .i64 n,.int .i64 tt] w0 λe w'=>e=.returned (.tuple #[ia (mI x key n tt).1,.int .i64 (mI x key n tt).2])∧Below w0.heap.size w0 w':=by
 have hI:=Inv.start w0;cases hm:aL tt
 ·rw[show mI x key n tt=(au 174,5)from by simp[mI,hm]]
  go_enter func106,ntmps106;go_wp2_with(first|refine YX ?_;intro bx w hI|with_reducible refine aW hI RF aM (by with_reducible exact pz) RF ?_|(with_reducible refine bX hI RF ?_);intro bx w hI|refine YL ?_|refine YS ?_;intro w hI|go_at_call 132;refine KR (eT _ _) ?_);exact XF
 cases ha:oq key n
 ·rw[show mI x key n tt=(au 174,5)from by simp[mI,ha]]
  go_enter func106,ntmps106;go_wp2_with(first|refine YL ?_|refine YX ?_;intro bx w hI|with_reducible refine aW hI RF aM (by with_reducible exact pz) RF ?_|(with_reducible refine bX hI RF ?_);intro bx w hI|refine YS ?_;intro w hI|go_at_call 144;refine KR (nO _ _ _) ?_|go_at_call 132;refine KR (eT _ _) ?_);exact XF
 obtain⟨hk0,hk1,hn0,hn1⟩:=wQ ha;obtain⟨t0,t5⟩:=dV hm;obtain⟨p,rfl⟩:∃p:Nat,tt=p:=⟨tt.toNat,by omega⟩;have hp5:p<5:=by omega
 have hp:(p:Int).toNat=p:=by simp
 have hc:=HD (Aj hr key.toNat OM).2.2.1;by_cases hgt:1099511627776-n< (sub x (1+key.toNat*7+2) 5).sum
 ·rw[show mI x key n p=(au 174,6)from by simp[mI,ha,hm,hgt]]
  go_enter func106,ntmps106;go_wp2_with(first|refine YL ?_|refine YX ?_;intro bx w hI|with_reducible refine aW hI RF aM (by with_reducible exact pz) RF ?_|(with_reducible refine bX hI RF ?_);intro bx w hI|refine YS ?_;intro w hI|go_at_call 144;refine KR (nO _ _ _) ?_|go_at_call 132;refine KR (eT _ _) ?_|go_at_call 145;refine KD hI (MS _ x key n _ p hx ⟨hk0,hk1⟩ ⟨hn0,hn1⟩ (by rw[qd (hI.blk aM)];rfl) hp5 hc.out hgt) ?_;intro w1 hI);exact XF
 ·rw[show mI x key n p=(jq x (1+key.toNat*7+2+p) n,0)from by simp[mI,ha,hm,hgt]]
  have hm2:(jq x (1+key.toNat*7+2+p) n).length=174:=by simp[jq,hx]
  have hle:(sub x (1+key.toNat*7+2) 5).sum<=1099511627776-n:=by omega
  go_enter func106,ntmps106;go_wp2_with(first|refine YL ?_|refine YX ?_;intro bx w hI|with_reducible refine aW hI RF aM (by with_reducible exact pz) RF ?_|(with_reducible refine bX hI RF ?_);intro bx w hI|refine YS ?_;intro w hI|go_at_call 144;refine KR (nO _ _ _) ?_|go_at_call 132;refine KR (eT _ _) ?_|go_at_call 145;refine KD hI (Qh _ x key n _ p hx ⟨hk0,hk1⟩ ⟨hn0,hn1⟩ (by rw[qd (hI.blk aM)];rfl) hp5 hc.out hle) ?_;intro w1 hI);exact bodyPost_ret (aH hI rfl rfl aC yx hm2) rfl ⟨rfl,hI.below⟩
def lI(x:List Int)(who:Int)(dead:List Int):List Int:=uF x who.toNat (wrap64 (gi dead 0+1)) (cellsOf dead)
def E5(x:List Int)(who:Int)(dead:List Int):List Int:=(iD who dead (lI x who dead) 5).set 0 (wrap64 (gi x 0+1))
def tJ(x:List Int)(who:Int)(dead:List Int):List Int×Int:=
 if aL who=true then(if 0<gi x (29+who.toNat)then(au 174,8)else(E5 x who dead,0))else(au 174,5)
theorem agL(w0 x dead who)(hx:x.length=174)(hd:dead.length=174)(h1:aL who=true)(hh:gi x (29+who.toNat)<=0):
  Calls prog 125 #[ia x,.int .i64 who,ia dead] w0 λe w'=>e=.returned (.tuple #[ia (E5 x who dead),.int .i64 0])∧Below w0.heap.size w0 w':=by
 have hI:=Inv.start w0;have hn:=ag 174;obtain⟨ho0,ho1⟩:=dV h1;have hcl:=nP dead hd;have hce:sub dead 1 28=cellsOf dead:=rfl;have hi0:dK (x.set (29+who.toNat) (wrap64 (gi dead 0+1))) (34+who.toNat*28) (cellsOf dead)=lI x who dead:=rfl;have hl0:(lI x who dead).length=174:=ow x _ _ _ hx OM hcl;have hg0:gi (lI x who dead) 0=gi x 0:=Zh x _ _ _ hx OM hcl;have hlt:=λj hj=>um who dead (lI x who dead) hl0 hd j hj
 go_enter func125,ntmps125;go_upto_region 5 with(first|refine YL ?_|refine YX ?_;intro bx w hI|go_at_call 132;refine KR (eT _ _) ?_)
 (try simp only[QN])
 (obtain⟨mE,rF⟩:=iO hI;refine aJ (C:=λw'=>Inv _ _ w' _) [9,12] (λw'=>Inv _ _ w' (List.eraseIdx (mE) 2)) hI.drew (λw' h=>Inv.sub h (by subst rF;((try simp only[xA]);repeat(first|exact List.Sublist.slnil|with_reducible apply List.Sublist.cons_cons|apply List.Sublist.cons)))) mixed KF ?_;subst rF;clear hI;(repeat(first| ((with_reducible apply dL);rfl;rfl;rfl;(focus(intro w (hI:Inv _ _ w _);go_wp2_with(refine YS ?_;intro w hI);(try simp only[QN]);exact⟨rfl,rfl,hI⟩));(exact⟨undef,rfl⟩);(focus(intro w (hI:Inv _ _ w _);exact Inv.sub hI SB))) | ((with_reducible apply bu);rfl;rfl;(focus(intro w (hI:Inv _ _ w _);go_wp2_with(refine YL ?_);(try simp only[QN]);exact⟨rfl,rfl,hI⟩));(exact⟨_,rfl⟩)) | ((with_reducible apply dG);rfl;rfl;(focus(intro D w hD hE;have hI:Inv _ _ w _:=hE;(try simp only[xA]at hI);go_wp2_with(refine YL ?_);(try simp only[QN]);exact⟨rfl,rfl,hD⟩));(exact⟨_,rfl⟩))));(refine bH ?_;intro w (hI:Inv _ _ w _)))
 rw[hce,hi0]at hI;clear hi0 hce;generalize hid:Hid (gi (lI x who dead) 0=gi x 0∧∀j,j<=5->(iD who dead (lI x who dead) j).length=174∧gi (iD who dead (lI x who dead) j) 0=gi (lI x who dead) 0)=PP;have WS:PP:=by rw[<-hid];exact HD ⟨hg0,hlt⟩
 subst hid;clear hlt hg0 hl0;go_wp2_with(refine YL ?_);obtain⟨br,bd,b1,h3,h2,h0⟩:=nm3 hI;subst h3 h2 h0
 go_loopg [33] 5 (λkk i wr=>∃(j:Nat),kk=5-j∧j<=5∧i=.int .i64 j∧Inv [] w0 wr [ib br 41 (au 174),ib bd 41 dead,ib b1 41 (iD who dead (lI x who dead) j)])
 case atStart=>exact⟨0,rfl,by omega,rfl,hI⟩
 case round=>
  clear hI;obtain⟨j,rfl,hj,rfl,hI⟩:=hrel;by_cases hlj:j<5
  ·have wL:(j:Int).toNat=j:=by simp
   have heh:gi (sub dead 29 5) j=gi dead (29+j):=gy dead 29 5 j hlj;have h5l:(sub dead 29 5).length=5:=by rw[az];omega
   have hyl:(iD who dead (lI x who dead) j).length=174:=(WS.out.2 j hj).1;have hs:Hid (iD who dead (lI x who dead) (j+1)=gX who dead (iD who dead (lI x who dead) j) j):=HD rfl;have hel:sub dead (34+j*28) 28=leftOf dead j:=(l7 dead j hlj).symm;have hll:(leftOf dead j).length=28:=rO dead j hd hlj;generalize iD who dead (lI x who dead) j=y at*;by_cases hw1:(j:Int)=who
   ·have hq:((j:Int) != who)=false:=by simp[hw1]
    have hk:Hid (gX who dead y j=y):=HD (by unfold gX;rw[if_neg (λh=>h.1 hw1)]);clear hw1;go_wp2_with(refine YL ?_);go_roundg (5- (j+1))
    case measure=>omega
    case rel=>exact⟨j+1,rfl,by omega,by go_num,by rw[hs.out,hk.out];exact hI⟩
   ·have hq:((j:Int) != who)=true:=by simpa using hw1
    by_cases hh0:0<gi dead (29+j)
    ·by_cases hy0:gi y (29+j)=0
     ·have hq2:(gi y (29+j)==0)=true:=by simpa using hy0
      have hk:Hid (gX who dead y j=dK (y.set (29+j) (gi dead (29+j))) (34+j*28) (leftOf dead j)):=HD (by unfold gX;rw[if_pos ⟨hw1,hh0,hy0⟩];rfl);clear hw1 hy0;generalize gi dead (29+j)=hv at*;go_upto_region 10 with(refine YL ?_)
      (try simp only[QN])
      (obtain⟨mE,rF⟩:=iO hI;refine aJ (C:=λw'=>Inv _ _ w' _) [9,12] (λw'=>Inv _ _ w' (List.eraseIdx (mE) 2)) hI.drew (λw' h=>Inv.sub h (by subst rF;((try simp only[xA]);repeat(first|exact List.Sublist.slnil|with_reducible apply List.Sublist.cons_cons|apply List.Sublist.cons)))) mixed KF ?_;subst rF;clear hI;(repeat(first| ((with_reducible apply dL);rfl;rfl;rfl;(focus(intro w (hI:Inv _ _ w _);go_wp2_with(refine YS ?_;intro w hI);(try simp only[QN]);exact⟨rfl,rfl,hI⟩));(exact⟨undef,rfl⟩);(focus(intro w (hI:Inv _ _ w _);exact Inv.sub hI SB))) | ((with_reducible apply bu);rfl;rfl;(focus(intro w (hI:Inv _ _ w _);go_wp2_with(fail);(try simp only[QN]);exact⟨rfl,rfl,hI⟩));(exact⟨_,rfl⟩)) | ((with_reducible apply dG);rfl;rfl;(focus(intro D w hD hE;have hI:Inv _ _ w _:=hE;(try simp only[xA]at hI);go_wp2_with(refine YL ?_);(try simp only[QN]);exact⟨rfl,rfl,hD⟩));(exact⟨_,rfl⟩))));(refine bH ?_;intro w (hI:Inv _ _ w _)))
      go_wp2_with(fail);go_roundg (5- (j+1))
      case measure=>omega
      case rel=>exact⟨j+1,rfl,by omega,by go_num,by rw[hs.out,hk.out];simp only[hel]at hI;exact hI⟩
     ·have hq2:(gi y (29+j)==0)=false:=by simpa using hy0
      have hk:Hid (gX who dead y j=y):=HD (by unfold gX;rw[if_neg (λh=>hy0 h.2.2)]);clear hw1 hy0;generalize gi dead (29+j)=hv at*;go_wp2_with(refine YL ?_);go_roundg (5- (j+1))
      case measure=>omega
      case rel=>exact⟨j+1,rfl,by omega,by go_num,by rw[hs.out,hk.out];exact hI⟩
    ·have hk:Hid (gX who dead y j=y):=HD (by unfold gX;rw[if_neg (λh=>hh0 h.2.1)])
     clear hw1;generalize gi dead (29+j)=hv at*;go_wp2_with(refine YL ?_);go_roundg (5- (j+1))
     case measure=>omega
     case rel=>exact⟨j+1,rfl,by omega,by go_num,by rw[hs.out,hk.out];exact hI⟩
  ·obtain rfl:j=5:=by omega
   have hyl:(iD who dead (lI x who dead) 5).length=174:=(WS.out.2 5 hj).1;have hy0:gi (iD who dead (lI x who dead) 5) 0=gi x 0:=(WS.out.2 5 hj).2.trans WS.out.1;have hres:(iD who dead (lI x who dead) 5).set 0 (wrap64 (gi x 0+1))=E5 x who dead:=rfl;replace hres:=HD hres;generalize iD who dead (lI x who dead) 5=y at*;go_wp2_with(first|refine YL ?_|refine YS ?_;intro w hI);rw[hres.out]at hI;have aly:(E5 x who dead).length=174:=by rw[<-hres.out,List.length_set,hyl]
   exact bodyPost_ret (aH hI rfl rfl aC yx aly) rfl ⟨rfl,hI.below⟩
theorem ajE(w0 x dead who)(hx:x.length=174)(hd:dead.length=174):
  Calls prog 125 #[ia x,.int .i64 who,ia dead] w0 λe w'=>e=.returned (.tuple #[ia (tJ x who dead).1,.int .i64 (tJ x who dead).2])∧Below w0.heap.size w0 w':=by
 unfold tJ;cases h1:aL who
 ·grind[C.agI]
 ·by_cases hh:0<gi x (29+who.toNat)
  all_goals simp_all[C.Zi,if_neg,C.agL]
theorem Vu(x who dead)(hx:x.length=174)(hd:dead.length=174)(h1:aL who=true):(E5 x who dead).length=174:=by
 obtain⟨ho0,ho1⟩:=dV h1;unfold E5;exact W93
theorem E8(x who dead)(hx:x.length=174)(hd:dead.length=174):(tJ x who dead).1.length=174:=by
 grind[C.tJ,ag,C.Vu]
end C
