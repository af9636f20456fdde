/- Contracts of functions. No condition. -/
import Derived.Test.YtdakkaapokhnnaaGreatDoorZ13
import Derived.Test.YtdakkaapokhnnaaGreatDoorZ14
namespace Go.Proofs.YtdakkaapokhnnaaGreatDoor
open Go.RowKit Go.Proofs.Tryz
set_option maxRecDepth 100000
set_option maxHeartbeats 6400000
set_option linter.all false
theorem call113(args:Array Value)(w:World):(callFunc 113 args).run prog w=.ok (.enter 113 args) w:=by
 simp[callFunc,Sem.run_bind,func113,f113,Sem.run_pure]
theorem x8{T:List Nat}{w0 w:World}{pr bx br:Nat}{ab:Option Nat}{bs cs:List UInt8}{z:List Int}{b u:Bool}{x:aG}{m:List aG}(hr:Hid (mY bs=some ((z,b),cs)))(hI:Inv T w0 w (d_ pr ab bs::x::blk br 4 [.bool u]::ib bx 158 (aj 192)::m)):
  Calls prog 113 #[.pointer (some ⟨pr,0,none⟩),.pointer (some ⟨bx,0,none⟩),.pointer (some ⟨br,0,none⟩)] w λe w'=>e=.returned (.tuple #[])∧Inv T w0 w' (d_ pr ab cs::x::blk br 4 [.bool b]::ib bx 158 z::m):=by
 go_enter func113,ntmps113;go_wp2_with(first|go_at_call 114;(with_reducible refine(aaD _ pr ab bs (hI.at_ aA) hr.out).mono ?_);rintro e w1 ⟨hzl,rfl,hJ⟩;replace hI:=hI.on hJ aR.here;clear hJ|refine YS ?_;intro w hI|refine YT ?_;intro w hI;(try simp only[QS]at hI));exact⟨rfl,_,gD KF _ _,rfl,hI⟩
theorem Sb{T:List Nat}{w0 w:World}{pr bx br:Nat}{ab:Option Nat}{bs:List UInt8}{u:Bool}{x:aG}{m:List aG}(hr:Hid (mY bs=none))(hI:Inv T w0 w (d_ pr ab bs::x::blk br 4 [.bool u]::ib bx 158 (aj 192)::m)):
  Calls prog 113 #[.pointer (some ⟨pr,0,none⟩),.pointer (some ⟨bx,0,none⟩),.pointer (some ⟨br,0,none⟩)] w λe w'=>e=.panicked Jp∧∃cs,Inv T w0 w' (d_ pr ab cs::x::blk br 4 [.bool u]::ib bx 158 (aj 192)::m):=by
 go_enter func113,ntmps113;go_wp2_with(go_at_call 114;refine KN hI (ael _ pr ab bs (hI.at_ aA) hr.out) ?_;intro Cq w1 hI);exact⟨rfl,rfl,_,hI⟩
theorem Wn{bs cs:List UInt8}{z:List Int}{b:Bool}(h:mY bs=some ((z,b),cs)):z.length=192:=by
 obtain⟨p,h0,h⟩:=Option.bind_eq_some_iff.1 h
 split at h
 ·exact W29
 ·obtain⟨⟨x1,c1⟩,h1,h⟩:=Option.bind_eq_some_iff.1 h
  simp only[Option.some.injEq,Prod.mk.injEq]at h;obtain⟨⟨rfl,_⟩,_⟩:=h;exact fo (aa _) (aa _) (aa _) (aa _) (aa _)
 ·exact W29
 ·exact W53
 ·obtain⟨⟨x1,c1⟩,h1,h⟩:=Option.bind_eq_some_iff.1 h
  obtain⟨⟨x2,c2⟩,h2,h⟩:=Option.bind_eq_some_iff.1 h;obtain⟨⟨x3,c3⟩,h3,h⟩:=Option.bind_eq_some_iff.1 h;obtain⟨⟨x4,c4⟩,h4,h⟩:=Option.bind_eq_some_iff.1 h;simp only[Option.some.injEq,Prod.mk.injEq]at h;obtain⟨⟨rfl,_⟩,_⟩:=h;exact fo (aa _) (by rw[cB];exact dN h2) (by rw[cB];exact dN h3) (by rw[cB];exact dN h4) (aa _)
 ·obtain⟨⟨x1,c1⟩,h1,h⟩:=Option.bind_eq_some_iff.1 h
  obtain⟨⟨x2,c2⟩,h2,h⟩:=Option.bind_eq_some_iff.1 h;obtain⟨⟨x3,c3⟩,h3,h⟩:=Option.bind_eq_some_iff.1 h;simp only[Option.some.injEq,Prod.mk.injEq]at h;obtain⟨⟨rfl,_⟩,_⟩:=h;exact fo (aa _) (by rw[cB];exact dN h2) (aa _) (by rw[cB];exact dN h3) (aa _)
 ·exact W53
 ·obtain⟨⟨x1,c1⟩,h1,h⟩:=Option.bind_eq_some_iff.1 h
  simp only[Option.some.injEq,Prod.mk.injEq]at h;obtain⟨⟨rfl,_⟩,_⟩:=h;exact fo (aa _) (aa _) (aa _) (aa _) (by rw[cB];exact dN h1)
 ·obtain⟨⟨x1,c1⟩,h1,h⟩:=Option.bind_eq_some_iff.1 h
  obtain⟨⟨x2,c2⟩,h2,h⟩:=Option.bind_eq_some_iff.1 h;simp only[Option.some.injEq,Prod.mk.injEq]at h;obtain⟨⟨rfl,_⟩,_⟩:=h;exact fo (aa _) (aa _) (aa _) (aa _) (by rw[cB];exact dN h2)
 ·exact W29
 ·cases h
def x9(bs:List UInt8):List Int×Int:=match mY bs with
 |some ((z,true),[])=>(z,0)
 |_=>(aj 192,1)
section
variable {T:List Nat}{w0 w:World}{a:Option Addr}{ab:Option Nat}{c:Nat}{bs:List UInt8}{m:List aG}(hc:bs.length<=c)(hm:c<=maxLen)(hI:Inv T w0 w (mQ ab a bs::m))
include hc hm hI
theorem Ko:Calls prog 76 #[.slice a bs.length c] w λe w'=>e=.returned (.tuple #[ia (x9 bs).1,.int .i64 (x9 bs).2])∧Inv T w0 w' m:=by
 have hmf:∀(fn:Fn) (first cap:Array Value) (w:World),(Instr.makeFunc fn first cap).run prog w=.ok (.func fn first cap) w:=λ_ _ _ _=>rfl
 have hn0:=aa 192;rcases h:mY bs with _| ⟨⟨z,b⟩,cs⟩
 ·have hD:Hid (x9 bs=(aj 192,1)):=HD (by rw[x9,h])
  have hr:=HD h;clear h;go_enter func76,ntmps76;go_wp2_with(first|(with_reducible refine aL (z:=.bool false) (cs:=[.bool false]) hI yJ RF ?_;intro br w hI)|go_at_call 99;(with_reducible refine(CQ hc hm call113 (Inv.Ju hI) (λw' pr x hI=>Sb hr hI)).mono ?_);rintro e w1 ⟨rfl,pr,Cq,hJ⟩;replace hI:=hJ;clear hJ|refine YS ?_;intro w hI|refine YT ?_;intro w hI;(try simp only[QS]at hI)|refine YX ?_;intro bx w hI|refine YL ?_);exact W49
 ·by_cases hcs:cs=[]
  ·subst hcs
   have hr:=HD h;cases b
   ·have hD:Hid (x9 bs=(aj 192,1)):=HD (by rw[x9,h])
    clear h;go_enter func76,ntmps76;go_wp2_with(first|(with_reducible refine aL (z:=.bool false) (cs:=[.bool false]) hI yJ RF ?_;intro br w hI)|go_at_call 99;(with_reducible refine(mH hc hm call113 (Inv.Ju hI) (λw' pr x hI=>x8 hr hI)).mono ?_);rintro e w1 ⟨rfl,pr,hJ⟩;replace hI:=hJ;clear hJ|refine YL ?_|refine YS ?_;intro w hI|refine YT ?_;intro w hI;(try simp only[QS]at hI)|refine YX ?_;intro bx w hI);exact W49
   ·have hD:Hid (x9 bs=(z,0)):=HD (by rw[x9,h])
    have hzl:=Wn h;clear h;go_enter func76,ntmps76;go_wp2_with(first|(with_reducible refine aL (z:=.bool false) (cs:=[.bool false]) hI yJ RF ?_;intro br w hI)|go_at_call 99;(with_reducible refine(mH hc hm call113 (Inv.Ju hI) (λw' pr x hI=>x8 hr hI)).mono ?_);rintro e w1 ⟨rfl,pr,hJ⟩;replace hI:=hJ;clear hJ|refine YL ?_|refine YS ?_;intro w hI|refine YT ?_;intro w hI;(try simp only[QS]at hI)|refine YX ?_;intro bx w hI);exact bodyPost_ret (aF hI rfl rfl mU (bG.out (t:=158)) hzl) rfl ⟨by rw[hD.out];rfl,hI.sub (.cons _ (.cons _ (.cons _ (.cons _ (.refl _)))))⟩
  ·have hD:Hid (x9 bs=(aj 192,1)):=HD (by
    rw[x9,h];cases cs with
    |nil=>exact absurd rfl hcs
    |cons x xs=>cases b<;>rfl)
   have hd:decide (cs=[])=false:=by simpa using hcs
   have hr:=HD h;clear h hcs;go_enter func76,ntmps76;go_wp2_with(first|(with_reducible refine aL (z:=.bool false) (cs:=[.bool false]) hI yJ RF ?_;intro br w hI)|go_at_call 99;(with_reducible refine(mH hc hm call113 (Inv.Ju hI) (λw' pr x hI=>x8 hr hI)).mono ?_);rintro e w1 ⟨rfl,pr,hJ⟩;replace hI:=hJ;clear hJ|refine YS ?_;intro w hI|refine YT ?_;intro w hI;(try simp only[QS]at hI)|refine YX ?_;intro bx w hI|refine YL ?_);exact W49
end
theorem ack(ks:List Nat)(i:Nat):gi (nn ks) i=((ks.getD i 0:Nat):Int):=by
 simp only[gi,nn,List.getD_eq_getElem?_getD,List.getElem?_map];cases ks[i]? <;>rfl
theorem acm{ks:List Nat}(h:∀k∈ks,k<9223372036854775808)(i:Nat):-9223372036854775808<=gi (nn ks) i∧gi (nn ks) i<=9223372036854775807:=by
 rw[ack];have:ks.getD i 0<9223372036854775808:=by
  rw[List.getD_eq_getElem?_getD];rcases hk:ks[i]? with _|k
  ·simp
  ·exact h k (List.mem_of_getElem? hk)
 omega
def Gb(r:List Int):Prop:=r.length=174∧C.mi r=true∧(∀i,-9223372036854775808<=gi r i∧gi r i<=9223372036854775807)∧∀i,0<=gi r i
def D5(v:List Int):Prop:=v.length=7∧lG v=true∧(∀i,-9223372036854775808<=gi v i∧gi v i<=9223372036854775807)∧∀i,0<=gi v i
def qD(n:Nat)(b:List Int):Prop:=b.length=n∧(∀i,-9223372036854775808<=gi b i∧gi b i<=9223372036854775807)∧∀i,0<=gi b i
def AR(n:Int):Prop:=0<=n∧n<=9223372036854775807
def gZ.Ok:gZ->Prop
 | .row w r=>w<5∧Gb r
 | .kept n=>AR n
 | .news w r=>w<5∧Gb r
 | .ask e b=>AR e∧qD 2 b
 | .promise e b h c=>AR e∧qD 2 b∧qD 2 h∧qD 3 c
 | .put e b c=>AR e∧qD 2 b∧qD 3 c
 | .taken e b=>AR e∧qD 2 b
 | .view v=>D5 v
 | .bR w v=>w<5∧D5 v
 | .iU w r=>w<5∧Gb r
def Rec.Ok:Rec->Prop
 | .row r=>Gb r
 | .eD w r=>w<5∧Gb r
 | .bR w=>w<5
 | .tL e b=>AR e∧qD 2 b
 | .take e b c=>AR e∧qD 2 b∧qD 3 c
 | .view v=>D5 v
theorem gZ.Ok.len{M:gZ}(h:M.Ok):M.Len:=by
 cases M with
 |row w r=>exact⟨h.1,h.2.1⟩
 |kept n=>trivial
 |news w r=>exact⟨h.1,h.2.1⟩
 |ask e b=>exact h.2.1
 |promise e b h1 c=>exact⟨h.2.1.1,h.2.2.1.1,h.2.2.2.1⟩
 |put e b c=>exact⟨h.2.1.1,h.2.2.1⟩
 |taken e b=>exact h.2.1
 |view v=>exact h.1
 |bR w v=>exact⟨h.1,h.2.1⟩
 |iU w r=>exact⟨h.1,h.2.1⟩
theorem Rec.Ok.len{x:Rec}(h:x.Ok):x.Len:=by
 cases x with
 |row r=>exact h.1
 |eD w r=>exact⟨h.1,h.2.1⟩
 |bR w=>exact h
 |tL e b=>exact h.2.1
 |take e b c=>exact⟨h.2.1.1,h.2.2.1⟩
 |view v=>exact h.1
def qP{α:Type}(x:α)(b:Bool)(cs:List UInt8):Option α:=if b=true∧cs=[]then some x else none
def Kq(bs:List UInt8):Option Rec:=
 (jV 6 bs).bind λp=>match p.1 with
 |0=>(jw p.2).bind λ(x1,c1)=>qP (.row (nn x1)) (C.mi (nn x1)) c1
 |1=>(jV 5 p.2).bind λ(x1,c1)=>(jw c1).bind λ(x2,c2)=>qP (.eD x1 (nn x2)) (C.mi (nn x2)) c2
 |2=>(jV 5 p.2).bind λ(x1,c1)=>qP (.bR x1) true c1
 |3=>(fT p.2).bind λ(x1,c1)=>(bF dD c1).bind λ(x2,c2)=>qP (.tL ((x1:Nat):Int) (nn x2)) true c2
 |4=>(fT p.2).bind λ(x1,c1)=>(bF dD c1).bind λ(x2,c2)=>(bF jQ c2).bind λ(x3,c3)=>qP (.take ((x1:Nat):Int) (nn x2) (nn x3)) true c3
 |5=>(bF kz p.2).bind λ(x1,c1)=>qP (.view (nn x1)) (lG (nn x1)) c1
 |_=>none
def Kr(bs:List UInt8):Option gZ:=
 (jV 10 bs).bind λp=>match p.1 with
 |0=>(jV 5 p.2).bind λ(x1,c1)=>(jw c1).bind λ(x2,c2)=>qP (.row x1 (nn x2)) (C.mi (nn x2)) c2
 |1=>(fT p.2).bind λ(x1,c1)=>qP (.kept ((x1:Nat):Int)) true c1
 |2=>(jV 5 p.2).bind λ(x1,c1)=>(jw c1).bind λ(x2,c2)=>qP (.news x1 (nn x2)) (C.mi (nn x2)) c2
 |3=>(fT p.2).bind λ(x1,c1)=>(bF dD c1).bind λ(x2,c2)=>qP (.ask ((x1:Nat):Int) (nn x2)) true c2
 |4=>(fT p.2).bind λ(x1,c1)=>(bF dD c1).bind λ(x2,c2)=>(bF dD c2).bind λ(x3,c3)=>(bF jQ c3).bind λ(x4,c4)=>qP (.promise ((x1:Nat):Int) (nn x2) (nn x3) (nn x4)) true c4
 |5=>(fT p.2).bind λ(x1,c1)=>(bF dD c1).bind λ(x2,c2)=>(bF jQ c2).bind λ(x3,c3)=>qP (.put ((x1:Nat):Int) (nn x2) (nn x3)) true c3
 |6=>(fT p.2).bind λ(x1,c1)=>(bF dD c1).bind λ(x2,c2)=>qP (.taken ((x1:Nat):Int) (nn x2)) true c2
 |7=>(bF kz p.2).bind λ(x1,c1)=>qP (.view (nn x1)) (lG (nn x1)) c1
 |8=>(jV 5 p.2).bind λ(x1,c1)=>(bF kz c1).bind λ(x2,c2)=>qP (.bR x1 (nn x2)) (lG (nn x2)) c2
 |9=>(jV 5 p.2).bind λ(x1,c1)=>(jw c1).bind λ(x2,c2)=>qP (.iU x1 (nn x2)) (C.mi (nn x2)) c2
 |_=>none
theorem qE{bs cs:List UInt8}{k:Nat}(h:fT bs=some (k,cs)):AR ((k:Nat):Int):=by have:=Ih h;constructor<;>omega
theorem Wo(ks:List Nat)(i:Nat):0<=gi (nn ks) i:=by rw[ack];omega
theorem jI{ls:List Nat}(hl:∀l∈ls,l<=9223372036854775808){bs cs:List UInt8}{ns:List Nat}(h:bF ls bs=some (ns,cs)):qD ls.length (nn ns):=⟨by rw[cB];exact dN h,acm (y_ hl h),Wo ns⟩
theorem n_:∀l∈dD,l<=9223372036854775808:=by decide
theorem Ad:∀l∈jQ,l<=9223372036854775808:=by decide
theorem aaE:∀l∈kz,l<=9223372036854775808:=by decide
theorem P7{n:Nat}{bs cs:List UInt8}{x:List Nat}(h:wO n bs=some (x,cs)):∀k∈x,k<9223372036854775808:=
 y_ (ls:=List.replicate n afW) (λl hl=>by rw[(List.mem_replicate.1 hl).2];decide) h
theorem Kt:∀ {n:Nat} {bs cs:List UInt8} {x y:List Nat},lQ n bs=some ((x,y),cs)->(∀k∈x,k<9223372036854775808)∧∀k∈y,k<9223372036854775808
 |0,bs,cs,x,y,h=>by
  simp only[lQ,Option.some.injEq,Prod.mk.injEq]at h;obtain⟨⟨rfl,rfl⟩,_⟩:=h;exact⟨by simp,by simp⟩
 |n+1,bs,cs,x,y,h=>by
  simp only[lQ]at h;obtain⟨⟨k,c⟩,h1,h⟩:=Option.bind_eq_some_iff.1 h;obtain⟨⟨q,c2⟩,h2,h⟩:=Option.bind_eq_some_iff.1 h;obtain⟨⟨⟨r1,r2⟩,c3⟩,h3,h⟩:=Option.map_eq_some_iff.1 h;simp only[Prod.mk.injEq]at h;obtain⟨⟨rfl,rfl⟩,_⟩:=h;obtain⟨h4,h5⟩:=Kt h3;have hk:=Ih h1;have hq:∀k∈q,k<9223372036854775808:=by
   split at h2
   ·exact P7 h2
   ·simp only[Option.some.injEq,Prod.mk.injEq]at h2
    intro k hk;rw[<-h2.1]at hk;rw[(List.mem_replicate.1 hk).2];decide
  refine⟨λj hj=>?_,λj hj=>?_⟩
  ·rcases List.mem_cons.1 hj with rfl|hj
   ·exact hk
   ·exact h4 j hj
  ·rcases List.mem_append.1 hj with hj|hj
   ·exact hq j hj
   ·exact h5 j hj
theorem aaF{bs cs:List UInt8}{x:List Nat}(h:jw bs=some (x,cs)):∀k∈x,k<9223372036854775808:=by
 unfold jw at h;obtain⟨⟨t,c⟩,h1,h⟩:=Option.bind_eq_some_iff.1 h;obtain⟨⟨p,c2⟩,h2,h⟩:=Option.bind_eq_some_iff.1 h;obtain⟨⟨⟨r1,r2⟩,c3⟩,h3,h⟩:=Option.map_eq_some_iff.1 h;simp only[Prod.mk.injEq]at h;obtain⟨rfl,_⟩:=h;obtain⟨h4,h5⟩:=Kt h3;intro k hk;rcases List.mem_append.1 hk with hk|hk
 ·rcases List.mem_append.1 hk with hk|hk
  ·rcases List.mem_cons.1 hk with rfl|hk
   ·exact Ih h1
   ·exact P7 h2 k hk
  ·exact h4 k hk
 ·exact h5 k hk
theorem vJ{bs cs:List UInt8}{ns:List Nat}(h:jw bs=some (ns,cs))(hb:C.mi (nn ns)=true):Gb (nn ns):=⟨by rw[cB];exact mZ h,hb,acm (aaF h),Wo ns⟩
theorem Ae{bs cs:List UInt8}{ns:List Nat}(h:bF kz bs=some (ns,cs))(hb:lG (nn ns)=true):D5 (nn ns):=
 have h1:=jI aaE h
 ⟨h1.1,hb,h1.2.1,h1.2.2⟩
theorem Gc(bs:List UInt8):(qM bs=none∧Kq bs=none)∨∃x b cs,qM bs=some ((x.mP,b),cs)∧Kq bs=qP x b cs∧(b=true->x.Ok):=by
 unfold qM Kq;rcases h0:jV 6 bs with _| ⟨k,c⟩
 ·exact .inl ⟨rfl,rfl⟩
 ·simp only[Option.bind_some]
  match k with
  |0=>
   simp only;rcases h1:jw c with _| ⟨x1,c1⟩
   ·exact .inl ⟨rfl,rfl⟩
   ·exact .inr ⟨.row (nn x1),_,c1,rfl,rfl,λhb=>vJ h1 hb⟩
  |1=>
   simp only;rcases h1:jV 5 c with _| ⟨x1,c1⟩
   ·exact .inl ⟨rfl,rfl⟩
   ·simp only[Option.bind_some]
    rcases h2:jw c1 with _| ⟨x2,c2⟩
    ·exact .inl ⟨rfl,rfl⟩
    ·exact .inr ⟨.eD x1 (nn x2),_,c2,rfl,rfl,λhb=>⟨rX h1,vJ h2 hb⟩⟩
  |2=>
   simp only;rcases h1:jV 5 c with _| ⟨x1,c1⟩
   ·exact .inl ⟨rfl,rfl⟩
   ·exact .inr ⟨.bR x1,_,c1,rfl,rfl,λ_=>rX h1⟩
  |3=>
   simp only;rcases h1:fT c with _| ⟨x1,c1⟩
   ·exact .inl ⟨rfl,rfl⟩
   ·simp only[Option.bind_some]
    rcases h2:bF dD c1 with _| ⟨x2,c2⟩
    ·exact .inl ⟨rfl,rfl⟩
    ·exact .inr ⟨.tL ((x1:Nat):Int) (nn x2),_,c2,rfl,rfl,λ_=>⟨qE h1,jI n_ h2⟩⟩
  |4=>
   simp only;rcases h1:fT c with _| ⟨x1,c1⟩
   ·exact .inl ⟨rfl,rfl⟩
   ·simp only[Option.bind_some]
    rcases h2:bF dD c1 with _| ⟨x2,c2⟩
    ·exact .inl ⟨rfl,rfl⟩
    ·simp only[Option.bind_some]
     rcases h3:bF jQ c2 with _| ⟨x3,c3⟩
     ·exact .inl ⟨rfl,rfl⟩
     ·exact .inr ⟨.take ((x1:Nat):Int) (nn x2) (nn x3),_,c3,rfl,rfl,λ_=>⟨qE h1,jI n_ h2,jI Ad h3⟩⟩
  |5=>
   simp only;rcases h1:bF kz c with _| ⟨x1,c1⟩
   ·exact .inl ⟨rfl,rfl⟩
   ·exact .inr ⟨.view (nn x1),_,c1,rfl,rfl,λhb=>Ae h1 hb⟩
  |k+6=>exact .inl ⟨rfl,rfl⟩
theorem Gd(bs:List UInt8):(mY bs=none∧Kr bs=none)∨∃x b cs,mY bs=some ((x.mP,b),cs)∧Kr bs=qP x b cs∧(b=true->x.Ok):=by
 unfold mY Kr;rcases h0:jV 10 bs with _| ⟨k,c⟩
 ·exact .inl ⟨rfl,rfl⟩
 ·simp only[Option.bind_some]
  match k with
  |0=>
   simp only;rcases h1:jV 5 c with _| ⟨x1,c1⟩
   ·exact .inl ⟨rfl,rfl⟩
   ·simp only[Option.bind_some]
    rcases h2:jw c1 with _| ⟨x2,c2⟩
    ·exact .inl ⟨rfl,rfl⟩
    ·exact .inr ⟨.row x1 (nn x2),_,c2,rfl,rfl,λhb=>⟨rX h1,vJ h2 hb⟩⟩
  |1=>
   simp only;rcases h1:fT c with _| ⟨x1,c1⟩
   ·exact .inl ⟨rfl,rfl⟩
   ·exact .inr ⟨.kept ((x1:Nat):Int),_,c1,rfl,rfl,λ_=>qE h1⟩
  |2=>
   simp only;rcases h1:jV 5 c with _| ⟨x1,c1⟩
   ·exact .inl ⟨rfl,rfl⟩
   ·simp only[Option.bind_some]
    rcases h2:jw c1 with _| ⟨x2,c2⟩
    ·exact .inl ⟨rfl,rfl⟩
    ·exact .inr ⟨.news x1 (nn x2),_,c2,rfl,rfl,λhb=>⟨rX h1,vJ h2 hb⟩⟩
  |3=>
   simp only;rcases h1:fT c with _| ⟨x1,c1⟩
   ·exact .inl ⟨rfl,rfl⟩
   ·simp only[Option.bind_some]
    rcases h2:bF dD c1 with _| ⟨x2,c2⟩
    ·exact .inl ⟨rfl,rfl⟩
    ·exact .inr ⟨.ask ((x1:Nat):Int) (nn x2),_,c2,rfl,rfl,λ_=>⟨qE h1,jI n_ h2⟩⟩
  |4=>
   simp only;rcases h1:fT c with _| ⟨x1,c1⟩
   ·exact .inl ⟨rfl,rfl⟩
   ·simp only[Option.bind_some]
    rcases h2:bF dD c1 with _| ⟨x2,c2⟩
    ·exact .inl ⟨rfl,rfl⟩
    ·simp only[Option.bind_some]
     rcases h3:bF dD c2 with _| ⟨x3,c3⟩
     ·exact .inl ⟨rfl,rfl⟩
     ·simp only[Option.bind_some]
      rcases h4:bF jQ c3 with _| ⟨x4,c4⟩
      ·exact .inl ⟨rfl,rfl⟩
      ·exact .inr ⟨.promise ((x1:Nat):Int) (nn x2) (nn x3) (nn x4),_,c4,rfl,rfl,λ_=>⟨qE h1,jI n_ h2,jI n_ h3,jI Ad h4⟩⟩
  |5=>
   simp only;rcases h1:fT c with _| ⟨x1,c1⟩
   ·exact .inl ⟨rfl,rfl⟩
   ·simp only[Option.bind_some]
    rcases h2:bF dD c1 with _| ⟨x2,c2⟩
    ·exact .inl ⟨rfl,rfl⟩
    ·simp only[Option.bind_some]
     rcases h3:bF jQ c2 with _| ⟨x3,c3⟩
     ·exact .inl ⟨rfl,rfl⟩
     ·exact .inr ⟨.put ((x1:Nat):Int) (nn x2) (nn x3),_,c3,rfl,rfl,λ_=>⟨qE h1,jI n_ h2,jI Ad h3⟩⟩
  |6=>
   simp only;rcases h1:fT c with _| ⟨x1,c1⟩
   ·exact .inl ⟨rfl,rfl⟩
   ·simp only[Option.bind_some]
    rcases h2:bF dD c1 with _| ⟨x2,c2⟩
    ·exact .inl ⟨rfl,rfl⟩
    ·exact .inr ⟨.taken ((x1:Nat):Int) (nn x2),_,c2,rfl,rfl,λ_=>⟨qE h1,jI n_ h2⟩⟩
  |7=>
   simp only;rcases h1:bF kz c with _| ⟨x1,c1⟩
   ·exact .inl ⟨rfl,rfl⟩
   ·exact .inr ⟨.view (nn x1),_,c1,rfl,rfl,λhb=>Ae h1 hb⟩
  |8=>
   simp only;rcases h1:jV 5 c with _| ⟨x1,c1⟩
   ·exact .inl ⟨rfl,rfl⟩
   ·simp only[Option.bind_some]
    rcases h2:bF kz c1 with _| ⟨x2,c2⟩
    ·exact .inl ⟨rfl,rfl⟩
    ·exact .inr ⟨.bR x1 (nn x2),_,c2,rfl,rfl,λhb=>⟨rX h1,Ae h2 hb⟩⟩
  |9=>
   simp only;rcases h1:jV 5 c with _| ⟨x1,c1⟩
   ·exact .inl ⟨rfl,rfl⟩
   ·simp only[Option.bind_some]
    rcases h2:jw c1 with _| ⟨x2,c2⟩
    ·exact .inl ⟨rfl,rfl⟩
    ·exact .inr ⟨.iU x1 (nn x2),_,c2,rfl,rfl,λhb=>⟨rX h1,vJ h2 hb⟩⟩
  |k+10=>exact .inl ⟨rfl,rfl⟩
theorem Gf{α:Type}{x y:α}{b:Bool}{cs:List UInt8}(h:qP x b cs=some y):y=x∧b=true∧cs=[]:=by
 unfold qP at h
 split at h
 ·rename_i hh;cases h;exact⟨rfl,hh.1,hh.2⟩
 ·cases h
theorem acn(bs:List UInt8):xZ bs=(match Kq bs with|some x=>(x.mP,0) |none=>(aj 189,1)):=by
 rcases Gc bs with⟨h1,h2⟩ | ⟨x,b,cs,h1,h2,_⟩
 ·rw[h2,xZ,h1]
 ·rw[h2,xZ,h1]
  cases b
  ·rfl
  ·cases cs with
   |nil=>rfl
   |cons c cs=>simp[qP]
theorem Wp{bs:List UInt8}{x:Rec}(h:Kq bs=some x):x.Ok:=by
 rcases Gc bs with⟨h1,h2⟩ | ⟨y,b,cs,h1,h2,hk⟩
 ·rw[h2]at h;cases h
 ·rw[h2]at h
  obtain⟨rfl,hb,_⟩:=Gf h;exact hk hb
theorem aco(bs:List UInt8):x9 bs=(match Kr bs with|some x=>(x.mP,0) |none=>(aj 192,1)):=by
 rcases Gd bs with⟨h1,h2⟩ | ⟨x,b,cs,h1,h2,_⟩
 ·rw[h2,x9,h1]
 ·rw[h2,x9,h1]
  cases b
  ·rfl
  ·cases cs with
   |nil=>rfl
   |cons c cs=>simp[qP]
theorem Wq{bs:List UInt8}{x:gZ}(h:Kr bs=some x):x.Ok:=by
 rcases Gd bs with⟨h1,h2⟩ | ⟨y,b,cs,h1,h2,hk⟩
 ·rw[h2]at h;cases h
 ·rw[h2]at h
  obtain⟨rfl,hb,_⟩:=Gf h;exact hk hb
section
open B (aI dY fH dX jL lC gN nX cz bQ nY)
def oN(x:Int):Prop:=-9223372036854775808<=x∧x<=9223372036854775807
def SA(f:Nat)(S:RS):gZ->Prop
 | .row w r=>w=f∧r=S.own
 | .kept _=>True
 | .news w r=>w=f∧(r=S.own∨r=C.rowOf S.book (f:Int))
 | .ask e b=>e=gi S.view 0∧aI S.view (f:Int)=true∧∃V,S.aK=some V∧b=sub V.1 7 2
 | .promise e b h c=>e=gi S.view 0∧aI S.view (f:Int)=true∧b=sub S.acc 1 2∧h=sub S.acc 3 2∧c=sub S.acc 5 3
 | .put e b c=>e=gi S.view 0∧aI S.view (f:Int)=true∧∃V,S.aK=some V∧V.2=true∧b=sub V.1 7 2∧c=sub V.1 9 3
 | .taken e b=>e=gi S.view 0∧aI S.view (f:Int)=true∧∃c,S.acc=pI e b b c
 | .view v=>v=S.view
 | .bR w v=>w<5∧v=S.view
 | .iU w r=>w<5∧C.fJ S.sl (w:Int)=true∧r=rowAt S.bV w
def Hr(f:Nat)(In:Nat->gZ->Prop)(S:RS)(a:Nat)(M:gZ):Prop:=In a M∨(a=f∧SA f S M)
inductive Grow (f:Nat) (S:RS) (x:List Int):Prop
 |more (key yu:Nat) (n:Int):key<4->yu<7->1<=n->n<=1099511627776->C.cntF S.own key yu<=1099511627776-n->x=C.jc S.own (1+key*7+yu) n->S.busy=false->aI S.view (f:Int)=true->Grow f S x
 |come:S.busy=false->pR f S≠[]->(∀i∈pR f S,∀w∈dS i,lW S i w=true)->gm S.last S.own (pR f S)=some x->Grow f S x
inductive SC (f:Nat) (In:Nat->gZ->Prop) (S:RS) (v:List Int):Prop
 |told (a:Nat):Hr f In S a (.view v)->SC f In S v
 |bR (a w:Nat):Hr f In S a (.bR w v)->SC f In S v
 |chosen (V:List Int×Bool) (a:Nat) (b:List Int):a<5->S.aK=some (iV V a b).1->(iV V a b).2=true->aI S.view (f:Int)=true->(bQ S.view (sub (iV V a b).1.1 9 3)).2=0->v=(bQ S.view (sub (iV V a b).1.1 9 3)).1->SC f In S v
def vM(S:RS)(b:List Int):Prop:=cz (gi S.acc 0) (gi S.acc 1) (gi S.acc 2) (gi S.view 0) (gi b 0) (gi b 1)=false
inductive Rs (f:Nat) (In:Nat->gZ->Prop) (S:RS):Rec->Prop
 |row (x:List Int):Grow f S x->Rs f In S (.row x)
 |eD (a:Nat) (r:List Int):a<5->Hr f In S a (.row a r)->C.lT S.bV S.sl (a:Int) r=true->Rs f In S (.eD a r)
 |bR (a w:Nat):w<5->dY S.view (w:Int)=((a:Int),true)->C.fJ S.sl (w:Int)=false->Rs f In S (.bR w)
 |tL (b:List Int):b.length=2->aI S.view (f:Int)=true->vM S b->gi b 0<=S.round∨b=[wrap64 (S.round+1),(f:Int)]->Rs f In S (.tL (gi S.view 0) b)
 |take (a:Nat) (b c:List Int):b.length=2->c.length=3->Hr f In S a (.put (gi S.view 0) b c)->aI S.view (f:Int)=true->gi b 0<=S.round->(bQ S.view c).2=0->vM S b->Rs f In S (.take (gi S.view 0) b c)
 |view (v:List Int):v.length=7->gi S.view 0<gi v 0->SC f In S v->Rs f In S (.view v)
inductive Mv (f:Nat) (In:Nat->gZ->Prop):Nat->RS->RS->Prop
 |out {S:RS} {t:Nat} {M:gZ}:t<5->SA f S M->M.Len->Mv f In 0 S (dM f S t M)
 |fail {S:RS} {x:Rec}:Rs f In S x->(eT S x).2≠0->Mv f In 0 S (eT S x).1
 |row {n:Nat} {S:RS} {x:List Int} {op:Int}:(0<op->n=1)->oN op->Grow f S x->x.length=174->(eT S (.row x)).2=0->Mv f In n S {(eT S (.row x)).1 with own:=x,busy:=true,kept:=0,waits:=op}
 |eD {S:RS} {a:Nat} {r:List Int}:r.length=174->Rs f In S (.eD a r)->(eT S (.eD a r)).2=0->Mv f In 0 S {(eT S (.eD a r)).1 with bV:=C.jZ S.bV S.sl (a:Int) r}
 |bR {S:RS} {w:Nat}:Rs f In S (.bR w)->(eT S (.bR w)).2=0->Mv f In 0 S {(eT S (.bR w)).1 with sl:=C.mI S.sl (w:Int)}
 |tL {S:RS} {b:List Int}:b.length=2->Rs f In S (.tL (gi S.view 0) b)->gi b 0<=S.round->(eT S (.tL (gi S.view 0) b)).2=0->Mv f In 0 S {(eT S (.tL (gi S.view 0) b)).1 with acc:=dF S.acc 1 b}
 |Ip {S:RS} {b c:List Int}:b=[wrap64 (S.round+1),(f:Int)]->c.length=3->(bQ S.view c).2=0->Rs f In S (.tL (gi S.view 0) b)->(eT S (.tL (gi S.view 0) b)).2=0->Mv f In 0 S {(eT S (.tL (gi S.view 0) b)).1 with acc:=dF S.acc 1 b,round:=wrap64 (S.round+1),aK:=some (nX S.view b c,false)}
 |take {S:RS} {b c:List Int}:b.length=2->c.length=3->Rs f In S (.take (gi S.view 0) b c)->(eT S (.take (gi S.view 0) b c)).2=0->Mv f In 0 S {(eT S (.take (gi S.view 0) b c)).1 with acc:=pI (gi S.acc 0) b b c}
 |view {S:RS} {v:List Int}:v.length=7->Rs f In S (.view v)->(eT S (.view v)).2=0->Mv f In 0 S (rV (eT S (.view v)).1 v)
 |hear {S:RS} {a w:Nat} {r:List Int}:w<5->r.length=174->Hr f In S a (.iU w r)->a∈dS w->Mv f In 0 S {S with last:=if gi S.told w=0∨gi S.last (w*174) <gi r 0 then dF S.last (w*174) r else S.last,told:=S.told.set w (Uj (gi S.told w) a)}
 |kept {S:RS} {z:Int}:Mv f In 0 S {S with kept:=z}
 |book {S:RS} {a w:Nat} {r:List Int}:r.length=174->In a (.news w r)∨(w=f∧r=S.own)->Mv f In 0 S {S with book:=C.ic S.book (w:Int) r}
 |idle {S:RS}:Mv f In 0 S {S with busy:=false}
 |done {S:RS}:0<S.waits->Mv f In 0 S {bW S S.waits 0 0 with waits:=0}
 |xq {S:RS} {op e z:Int}:oN op->oN e->oN z->Mv f In 1 S (bW S op e z)
 |round {S:RS} {z:Int}:S.round<=z->Mv f In 0 S {S with round:=z}
 |WG {S:RS} {V:List Int×Bool} {a:Nat} {b h c:List Int}:h.length=2->c.length=3->S.aK=some V->Hr f In S a (.promise (gi S.view 0) b h c)->Mv f In 0 S {S with aK:=some (ig V a b h c).1}
 |taken {S:RS} {V:List Int×Bool} {a:Nat} {b:List Int}:S.aK=some V->Hr f In S a (.taken (gi S.view 0) b)->Mv f In 0 S {S with aK:=some (iV V a b).1}
 |ops {S:RS} {z:Int}:Mv f In 0 S {S with ops:=z}
inductive lH (f:Nat) (In:Nat->gZ->Prop):Nat->RS->RS->Prop
 |nil {k:Nat} (S:RS):lH f In k S S
 |cons {n m k:Nat} {S S1 S2:RS}:Mv f In n S S1->lH f In m S1 S2->n+m<=k->lH f In k S S2
section
variable {f:Nat}{In:Nat->gZ->Prop}{n m k:Nat}{S S1 S2:RS}
theorem Mv.s(h:Mv f In n S S1):lH f In n S S1:=.cons h (.nil (k:=0) _) OM
theorem lH.le(h:lH f In n S S1)(hn:n<=k):lH f In k S S1:=by
 cases h with
 |nil=>exact .nil _
 |cons a b c=>exact .cons a b OM
theorem lH.trans(h:lH f In n S S1):∀ {m k:Nat},lH f In m S1 S2->n+m<=k->lH f In k S S2:=by
 induction h with
 |nil=>intro m k h hk;exact h.le OM
 |cons a b c ih=>intro m k h hk;exact .cons a (ih h (Nat.le_refl _)) OM
theorem lH.t(h:lH f In 0 S S1)(h2:lH f In k S1 S2):lH f In k S S2:=h.trans h2 OM
theorem Mv.t(h:Mv f In 0 S S1)(h2:lH f In k S1 S2):lH f In k S S2:=.cons h h2 OM
theorem ze{P:RS->Prop}(hP:∀n S S',Mv f In n S S'->P S->P S')(h:lH f In k S S1):P S->P S1:=by
 induction h with
 |nil=>exact λh=>h
 |cons a b c ih=>exact λh=>ih (hP _ _ _ a h)
theorem yg{last:List Int}(hl:last.length=870):∀ {l:List Nat} {x y:List Int},(∀i∈l,i<5)->x.length=174->gm last x l=some y->y.length=174
 | [],x,y,_,hx,h=>by rw[gm,Option.some.injEq]at h;rw[<-h];exact hx
 |i::l,x,y,h5,hx,h=>by
  rw[gm]at h
  split at h
  ·exact yg hl (λj hj=>h5 j (List.mem_cons_of_mem _ hj)) hx h
  ·split at h
   ·refine yg hl (λj hj=>h5 j (List.mem_cons_of_mem _ hj)) (C.Dr _ _ _ hx ?_) h
    have:=h5 i SI;unfold rowAt;rw[ay];omega
   ·cases h
theorem aey{i:Nat}(h:i∈pR f S):i<5:=List.mem_range.1 (List.mem_filter.1 h).1
theorem Grow.len(hL:dB S){x:List Int}(h:Grow f S x):x.length=174:=by
 cases h with
 |more key yu n _ _ _ _ _ e=>rw[e,C.FU,hL.own]
 |come _ _ _ e=>exact yg hL.last (λi hi=>aey hi) hL.own e
theorem KU(hL:dB S)(t:Nat)(M:gZ):dB (dM f S t M):=by
 unfold dM;split
 ·exact hL
 ·exact⟨hL.view,hL.own,hL.bV,hL.sl,hL.acc,hL.book,hL.told,hL.last,hL.aK⟩
theorem lK(hm:Mv f In n S S1)(hL:dB S):dB S1:=by
 have hv:∀ {V:List Int×Bool},V.1.length=16->∀p,some V=some p->p.1.length=16:=λh p e=>by cases e;exact h
 cases hm with
 |out _ _ _=>exact KU hL _ _
 |fail _ _=>exact⟨hL.view,hL.own,hL.bV,hL.sl,hL.acc,hL.book,hL.told,hL.last,hL.aK⟩
 |row _ _ g hx _=>exact⟨hL.view,hx,hL.bV,hL.sl,hL.acc,hL.book,hL.told,hL.last,hL.aK⟩
 |eD hr _ _=>exact⟨hL.view,hL.own,sQ hL.bV hr,hL.sl,hL.acc,hL.book,hL.told,hL.last,hL.aK⟩
 |bR _ _=>exact⟨hL.view,hL.own,hL.bV,C.FN _ _ hL.sl,hL.acc,hL.book,hL.told,hL.last,hL.aK⟩
 |tL hb _ _ _=>exact⟨hL.view,hL.own,hL.bV,hL.sl,by show(dF S.acc 1 _).length=8;have:=hL.acc;rw[aY];omega,hL.book,hL.told,hL.last,hL.aK⟩
 |Ip hb hc _ _ _=>exact⟨hL.view,hL.own,hL.bV,hL.sl,by show(dF S.acc 1 _).length=8;have:=hL.acc;have h2:[wrap64 (S.round+1),(f:Int)].length=2:=rfl;rw[aY,hb];omega,hL.book,hL.told,hL.last,hv (by rw[nX,hb];simp[hL.view,hc])⟩
 |take hb hc _ _=>exact⟨hL.view,hL.own,hL.bV,hL.sl,by show(pI _ _ _ _).length=8;simp[pI,hb,hc],hL.book,hL.told,hL.last,hL.aK⟩
 |view h7 _ _=>exact⟨h7,hL.own,hL.bV,hL.sl,by show(pI _ _ _ _).length=8;simp[pI,aa],hL.book,hL.told,hL.last,λp h=>by cases h⟩
 | @hear _ a w r hw hr h ha=>
  have hla:=hL.last;refine⟨hL.view,hL.own,hL.bV,hL.sl,hL.acc,hL.book,by show(S.told.set _ _).length=5;rw[List.length_set];exact hL.told,?_,hL.aK⟩;show(if _ then dF S.last (w*174) r else S.last).length=870
  split
  ·rw[aY];omega
  ·exact hL.last
 |kept=>exact⟨hL.view,hL.own,hL.bV,hL.sl,hL.acc,hL.book,hL.told,hL.last,hL.aK⟩
 |book hr _=>exact⟨hL.view,hL.own,hL.bV,hL.sl,hL.acc,xW hL.book hr,hL.told,hL.last,hL.aK⟩
 |idle=>exact⟨hL.view,hL.own,hL.bV,hL.sl,hL.acc,hL.book,hL.told,hL.last,hL.aK⟩
 |done _=>exact⟨hL.view,hL.own,hL.bV,hL.sl,hL.acc,hL.book,hL.told,hL.last,hL.aK⟩
 |xq _ _ _=>exact⟨hL.view,hL.own,hL.bV,hL.sl,hL.acc,hL.book,hL.told,hL.last,hL.aK⟩
 |round _=>exact⟨hL.view,hL.own,hL.bV,hL.sl,hL.acc,hL.book,hL.told,hL.last,hL.aK⟩
 |WG h2 h3 hV _=>exact⟨hL.view,hL.own,hL.bV,hL.sl,hL.acc,hL.book,hL.told,hL.last,hv (DV (hL.aK _ hV) h2 h3)⟩
 |taken hV _=>exact⟨hL.view,hL.own,hL.bV,hL.sl,hL.acc,hL.book,hL.told,hL.last,hv (DU (hL.aK _ hV))⟩
 |ops=>exact⟨hL.view,hL.own,hL.bV,hL.sl,hL.acc,hL.book,hL.told,hL.last,hL.aK⟩
theorem pX(h:lH f In k S S1):dB S->dB S1:=ze (λ_ _ _ h=>lK h) h
end
end
section
open B (aI dY fH dX jL lC gN nX cz bQ nY)
section
variable {f:Nat}{In:Nat->gZ->Prop}{n m k:Nat}{S S1 S2:RS}
theorem KV(M:gZ)(S:RS){t:Nat}(ht:t<5)(hs:SA f S M)(hM:M.Len):Mv f In 0 S (dM f S t M):=.out ht hs hM
theorem tu(S:RS)(t:Nat)(M:gZ):∃B,dM f S t M={S with B:=B}:=by
 unfold dM;split
 ·exact⟨S.B,rfl⟩
 ·exact⟨_,rfl⟩
theorem agK{B:Nat->List (List UInt8)}{M:gZ}:SA f {S with B:=B} M↔SA f S M:=by cases M<;>exact Iff.rfl
theorem aaP{t:Nat}{M M':gZ}(h:SA f S M):SA f (dM f S t M') M:=by
 obtain⟨B,e⟩:=tu (f:=f) S t M';rw[e];exact agK.2 h
theorem Eh{M:gZ}(hM:M.Len):∀(l:List Nat) (S:RS),(∀i∈l,i<5)->SA f S M->lH f In 0 S (l.foldl (λS i=>dM f S i M) S)∧SA f (l.foldl (λS i=>dM f S i M) S) M
 | [],S,_,hs=>⟨.nil S,hs⟩
 |i::l,S,h5,hs=>by
  obtain⟨h1,h2⟩:=Eh hM l (dM f S i M) (λj hj=>h5 j (List.mem_cons_of_mem _ hj)) (aaP hs);exact⟨(Mv.out (h5 i SI) hs hM).t h1,h2⟩
theorem agL(i:Nat){w:Nat}(h:w∈dS i):w<5:=by
 simp only[dS,List.mem_cons,List.not_mem_nil,or_false]at h;omega
theorem Gp(hf:f<5)(hL:dB S):lH f In 0 S (gz f S):=by
 unfold gz;have:∀(l:List Nat) (S:RS),(∀w∈l,w<5)->dB S->lH f In 0 S (l.foldl (λS w=>if bt S.kept w=true then S else dM f S w (.row f S.own)) S):=by
  intro l
  induction l with
  |nil=>intro S _ _;exact .nil S
  |cons w l ih=>
   intro S h5 hL;rw[List.foldl_cons]
   split
   ·exact ih S (λj hj=>h5 j (List.mem_cons_of_mem _ hj)) hL
   ·exact(KV (.row f S.own) S (h5 w SI) ⟨rfl,rfl⟩ ⟨hf,hL.own⟩).t (ih _ (λj hj=>h5 j (List.mem_cons_of_mem _ hj)) (KU hL _ _))
 exact this _ S (λw hw=>agL f hw) hL
theorem WH(hf:f<5)(hL:dB S){x:List Int}{op:Int}(hn:0<op->n=1)(h64:oN op)(hg:Grow f S x):lH f In n S (gY f S x op).1:=by
 unfold gY;split
 ·rename_i h
  have hr:Mv f In n S _:=Mv.row hn h64 hg (hg.len hL) h;exact hr.s.trans (Gp hf (lK hr hL)) OM
 ·rename_i h
  exact(Mv.fail (Rs.row x hg) h).s.le OM
theorem Iq(hf:f<5)(hL:dB S):lH f In 0 S (jH f S):=by
 unfold jH;split
 ·exact .nil S
 ·rename_i h1
  split
  ·rename_i h2
   cases h:gm S.last S.own (pR f S)with
   |none=>exact .nil S
   |some x=>
    refine WH hf hL (λh=>by omega) (by unfold oN;omega) (.come (by simpa using λh=>h1 (.inl h)) (λh=>h1 (.inr h)) (λi hi w hw=>?_) h);exact List.all_eq_true.1 (List.all_eq_true.1 h2 i hi) w hw
  ·exact .nil S
theorem SE(hL:dB S){a w:Nat}{r:List Int}(hw:w<5)(hr:r.length=174)(h:Hr f In S a (.iU w r))(ha:a∈dS w):dB {S with last:=if gi S.told w=0∨gi S.last (w*174) <gi r 0 then dF S.last (w*174) r else S.last,told:=S.told.set w (Uj (gi S.told w) a)}:=
 lK (Mv.hear hw hr h ha) hL
theorem KW(hf:f<5)(hL:dB S){a w:Nat}{r:List Int}(hw:w<5)(hr:r.length=174)(h:Hr f In S a (.iU w r)):lH f In 0 S (iP f S a w r):=by
 unfold iP;split
 ·rename_i ha
  exact(Mv.hear hw hr h ha).t (Iq hf (SE hL hw hr h ha))
 ·exact Iq hf hL
theorem Gq{zs:List Int}(hz:zs.length=870){w:Nat}(hw:w<5):(rowAt zs w).length=174:=by unfold rowAt;rw[ay];omega
theorem zf(hf:f<5)(hL:dB S){dst w:Nat}(hd:dst<5)(hw:w<5)(hs:C.fJ S.sl (w:Int)=true):lH f In 0 S (fK f S dst w (rowAt S.bV w)):=by
 unfold fK;split
 ·exact KW hf hL hw (Gq hL.bV hw) (.inr ⟨rfl,hw,hs,rfl⟩)
 ·exact(KV (.iU w (rowAt S.bV w)) S hd ⟨hw,hs,rfl⟩ ⟨hw,Gq hL.bV hw⟩).s
theorem KX{bs:List Bool}(hb:bs.length=5){w:Nat}(hw:w<5):C.fJ (C.mI bs (w:Int)) (w:Int)=true:=by
 have h1:C.aP (w:Int)=true:=by simp[C.aP];omega
 unfold C.fJ C.mI;rw[if_pos h1,h1];simp[gb,hb,hw]
theorem WI(hf:f<5)(hL:dB S){a w:Nat}(ha:a<5)(hw:w<5):lH f In 0 S (lX f S a w):=by
 unfold lX;split
 ·rename_i h1
  split
  ·rename_i h2;exact zf hf hL ha hw h2
  ·rename_i h2
   have hr:Rs f In S (.bR w):=.bR a w hw h1 (by simpa using h2)
   split
   ·rename_i h3
    have hm:=Mv.bR hr h3;exact hm.t (zf (S:={(eT S (.bR w)).1 with sl:=C.mI S.sl (w:Int)}) hf (lK hm hL) ha hw (KX hL.sl hw))
   ·rename_i h3;exact(Mv.fail hr h3).s
 ·exact .nil S
theorem NY(hf:f<5)(hL:dB S){dst w:Nat}(hd:dst<5)(hw:w<5):lH f In 0 S (j3 f S dst w):=by
 unfold j3;split
 ·exact WI hf hL hf hw
 ·exact(KV (.bR w S.view) S hd ⟨hw,rfl⟩ ⟨hw,hL.view⟩).s
theorem WJ(hf:f<5)(hL:dB S){i:Nat}(hi:i<5):lH f In 0 S (nG f S i):=by
 unfold nG;have:∀(l:List Nat) (S:RS),(∀w∈l,w<5)->dB S->lH f In 0 S (l.foldl (λS w=>if lW S i w=true then S else j3 f S w i) S):=by
  intro l
  induction l with
  |nil=>intro S _ _;exact .nil S
  |cons w l ih=>
   intro S h5 hL;rw[List.foldl_cons]
   split
   ·exact ih S (λj hj=>h5 j (List.mem_cons_of_mem _ hj)) hL
   ·have h:=NY (In:=In) hf hL (h5 w SI) hi
    exact h.t (ih _ (λj hj=>h5 j (List.mem_cons_of_mem _ hj)) (pX h hL))
 exact this _ S (λw hw=>agL i hw) hL
theorem P9(hf:f<5)(hL:dB S):lH f In 0 S (kr f S):=by
 unfold kr;have:∀(l:List Nat) (S:RS),(∀w∈l,w<5)->dB S->lH f In 0 S (l.foldl (nG f) S):=by
  intro l
  induction l with
  |nil=>intro S _ _;exact .nil S
  |cons w l ih=>
   intro S h5 hL;rw[List.foldl_cons];have h:=WJ (In:=In) hf hL (h5 w SI);exact h.t (ih _ (λj hj=>h5 j (List.mem_cons_of_mem _ hj)) (pX h hL))
 exact this _ S (λw hw=>aey hw) hL
theorem Ir(hf:f<5)(hL:dB S){v:List Int}(h7:v.length=7)(hv:SC f In S v):lH f In 0 S (eZ f S v).1:=by
 unfold eZ;split
 ·exact .nil S
 ·rename_i h1
  have hr:Rs f In S (.view v):=.view v h7 OM hv
  split
  ·rename_i h2
   have hm:=Mv.view h7 hr h2;exact hm.t (P9 hf (lK hm hL))
  ·rename_i h2;exact(Mv.fail hr h2).s
theorem NZ{v:List Int}(h:(eZ f S v).2=true):(eZ f S v).1.view=v:=by
 unfold eZ at h|-
 split
 ·rename_i h1;rw[if_pos h1]at h;cases h
 ·rename_i h1
  rw[if_neg h1]at h
  split
  ·exact xX f _
  ·rename_i h2;rw[if_neg h2]at h;cases h
theorem N7(hf:f<5)(hL:dB S){a w:Nat}{v:List Int}(ha:a<5)(hw:w<5)(h7:v.length=7)(h:Hr f In S a (.bR w v)):lH f In 0 S (F5 f S a w v):=by
 have h1:=Ir hf hL h7 (.bR a w h);exact h1.t (WI hf (pX h1 hL) ha hw)
theorem aez(hf:f<5)(hL:dB S){a w:Nat}{r:List Int}(ha:a<5)(hr:r.length=174)(h:Hr f In S a (.row w r)):lH f In 0 S (rz f S a w r):=by
 unfold rz;split
 ·exact .nil S
 ·rename_i h1
  have hw:w=a:=Decidable.byContradiction λh=>h1 (.inl h)
  subst hw
  split
  ·rename_i h2
   have hR:Rs f In S (.eD w r):=.eD w r ha h h2
   split
   ·rename_i h3
    exact(Mv.eD hr hR h3).t (KV (.kept _) _ ha trivial trivial).s
   ·rename_i h3;exact(Mv.fail hR h3).s
  ·exact(KV (.kept _) _ ha trivial trivial).s
theorem agM{i:Nat}(h:i∈others f):i<5:=List.mem_range.1 (List.mem_filter.1 h).1
theorem Ei(hf:f<5){x:List Int}(hx:x.length=174)(h:x=S.own∨x=C.rowOf S.book (f:Int)):lH f In 0 S (fu f S x):=
 (Eh (M:=.news f x) ⟨hf,hx⟩ _ S (λi hi=>agM hi) ⟨rfl,h⟩).1
theorem Ej(hL:dB S):lH f In 0 S (gG f S S.view):=
 (Eh (M:=.view S.view) hL.view _ S (λi hi=>agM hi) rfl).1
theorem SF(hf:f<5)(hL:dB S):lH f In 0 S (kQ f S):=by
 have go:∀T:RS,dB T->T.own=S.own->lH f In 0 T (jH f (fu f T S.own)):=λT hT e=>by
  have h:=Ei (In:=In) (S:=T) hf hL.own (.inl e.symm);exact h.t (Iq hf (pX h hT))
 have m1:Mv f In 0 S {S with busy:=false}:=.idle;have m2:Mv f In 0 {S with busy:=false} {S with busy:=false,book:=C.ic S.book (f:Int) S.own}:=Mv.book (S:={S with busy:=false}) (a:=f) hL.own (.inr ⟨rfl,rfl⟩);have L2:=lK m2 (lK m1 hL);unfold kQ;dsimp only;refine m1.t (m2.t ?_)
 split
 ·rename_i hw
  have m3:Mv f In 0 {S with busy:=false,book:=C.ic S.book (f:Int) S.own} {bW {S with busy:=false,book:=C.ic S.book (f:Int) S.own} S.waits 0 0 with waits:=0}:=Mv.done (S:={S with busy:=false,book:=C.ic S.book (f:Int) S.own}) hw;exact m3.t (go _ (lK m3 L2) rfl)
 ·exact go _ L2 rfl
theorem aeA(hf:f<5)(hL:dB S){a:Nat}{z:Int}:lH f In 0 S (rA f S a z):=by
 unfold rA;split
 ·have m1:Mv f In 0 S {S with kept:=Uj S.kept a}:=.kept
  split
  ·exact m1.t (SF hf (lK m1 hL))
  ·exact m1.s
 ·exact .nil S
theorem aeB{a w:Nat}{r:List Int}(hr:r.length=174)(h:In a (.news w r)):lH f In 0 S (VR S w r):=(Mv.book hr (.inl h)).s
end
end
section
open B (aI dY fH dX jL lC gN nX cz bQ nY)
section
variable {f:Nat}{In:Nat->gZ->Prop}{n m k:Nat}{S S1 S2:RS}
theorem WK(hf:f<5)(hL:dB S){V:List Int×Bool}{a:Nat}{b:List Int}(ha:a<5)(hm:aI S.view (f:Int)=true)(hV:S.aK=some (iV V a b).1)(ht:(iV V a b).2=true):lH f In 0 S (kY f S (iV V a b).1):=by
 unfold kY;split
 ·rename_i h0
  have h7:=nY S.view (sub (iV V a b).1.1 9 3) hL.view;have hl:=Ir (In:=In) hf hL h7 (.chosen V a b ha hV ht hm h0 rfl)
  split
  ·rename_i h1
   have e:=NZ h1;refine hl.t ?_;have:=Ej (f:=f) (In:=In) (pX hl hL);rw[e]at this;exact this
  ·exact hl
 ·exact .nil S
theorem AU{e:Int}{b:List Int}{ans:RS}{K:RS->RS}(QX:lH f In 0 S ans)(hK:e=gi S.view 0->aI S.view (f:Int)=true->lH f In 0 {S with round:=max S.round (gi b 0)} (K {S with round:=max S.round (gi b 0)})):lH f In 0 S (qO f S e b ans K):=by
 unfold qO;split
 ·exact QX
 ·rename_i h1
  split
  ·exact .nil S
  ·rename_i h2
   have hm:aI S.view (f:Int)=true:=by
    cases h:aI S.view (f:Int)
    ·exact absurd (.inr h) h2
    ·rfl
   have he:e=gi S.view 0:=by
    have:¬gi S.view 0<e:=λh=>h2 (.inl h)
    omega
   exact(Mv.round (f:=f) (In:=In) (S:=S) (z:=max S.round (gi b 0)) OM).t (hK he hm)
theorem tC(hL:dB S){z:Int}:dB {S with round:=z}:=⟨hL.view,hL.own,hL.bV,hL.sl,hL.acc,hL.book,hL.told,hL.last,hL.aK⟩
theorem KY(hf:f<5)(hL:dB S){a:Nat}{b:List Int}(ha:a<5)(hm:aI S.view (f:Int)=true)(h:Hr f In S a (.taken (gi S.view 0) b)):lH f In 0 S (nH f S a b):=by
 unfold nH;cases hV:S.aK with
 |none=>exact .nil S
 |some V=>
  have m1:=Mv.taken hV h;dsimp only
  split
  ·rename_i ht
   exact m1.t (WK (S:={S with aK:=some (iV V a b).1}) hf (lK m1 hL) ha hm rfl ht)
  ·exact m1.s
theorem AV(hf:f<5)(hL:dB S){dst:Nat}{e:Int}{b:List Int}(hd:dst<5)(hb:b.length=2)(hs:SA f S (.taken e b)):lH f In 0 S (gQ f S dst e b):=by
 unfold gQ;split
 ·exact AU (.nil S) λhe hm=>KY (S:={S with round:=max S.round (gi b 0)}) hf (tC hL) hf hm (.inr ⟨rfl,rfl,hs.2.1,by show ∃c,S.acc=pI (gi S.view 0) b b c;rw[<-he];exact hs.2.2⟩)
 ·exact(KV _ _ hd hs hb).s
def Ep(S:RS):Prop:=gi S.acc 0=gi S.view 0
theorem aaQ{zs ws:List Int}{o:Nat}(h:o+ws.length<=zs.length):sub (dF zs o ws) o ws.length=ws:=by
 unfold sub dF;rw[List.append_assoc,List.drop_append,List.length_take,Nat.min_eq_left OM,Nat.sub_self,List.drop_eq_nil_of_le (by rw[List.length_take];omega)];simp
theorem WL(hf:f<5)(hL:dB S){a:Nat}{e:Int}{b c:List Int}(ha:a<5)(hb:b.length=2)(hc:c.length=3)(hE:Ep S)(he:e=gi S.view 0)(hm:aI S.view (f:Int)=true)(hr0:gi b 0<=S.round)(h:Hr f In S a (.put e b c)):lH f In 0 S (sZ f S a e b c):=by
 subst he;unfold sZ;split
 ·rename_i h0
  split
  ·rename_i h1
   have hr:vM S b:=by
    unfold vM;unfold DK at h1;cases h:cz (gi S.acc 0) (gi S.acc 1) (gi S.acc 2) (gi S.view 0) (gi b 0) (gi b 1)
    ·rfl
    ·rw[if_pos h]at h1;cases h1
   have e1:(DK S.acc (gi S.view 0) b c).1=pI (gi S.acc 0) b b c:=by
    unfold DK;rw[if_neg (by rw[show cz _ _ _ _ _ _=false from hr];simp)]
   rw[e1]
   split
   ·rename_i h2
    exact AV hf hL ha hb ⟨rfl,hm,c,by rw[<-h2,<-hE,h2]⟩
   ·have hR:Rs f In S (.take (gi S.view 0) b c):=.take a b c hb hc h hm hr0 h0 hr
    split
    ·rename_i h3
     have m1:=Mv.take hb hc hR h3;exact m1.t (AV (S:={(eT S (.take (gi S.view 0) b c)).1 with acc:=pI (gi S.acc 0) b b c}) hf (lK m1 hL) ha hb ⟨rfl,hm,c,by show pI (gi S.acc 0) b b c=pI (gi S.view 0) b b c;rw[hE]⟩)
    ·rename_i h3;exact(Mv.fail hR h3).s
  ·exact .nil S
 ·exact .nil S
theorem acp{v:List Int}{i:Nat}(h:i∈Kg f v):i<5:=List.mem_range.1 (List.mem_filter.1 h).1
theorem Ah{M:gZ}:∀(l:List Nat) (S:RS),∃B,l.foldl (λS i=>dM f S i M) S={S with B:=B}
 | [],S=>⟨S.B,rfl⟩
 |i::l,S=>by
  obtain⟨B,e⟩:=tu (f:=f) S i M;obtain⟨B2,e2⟩:=Ah (M:=M) l (dM f S i M);exact⟨B2,by rw[List.foldl_cons,e2,e]⟩
theorem SG(hf:f<5)(hL:dB S)(hE:Ep S)(hm:aI S.view (f:Int)=true){V:List Int×Bool}(hV:S.aK=some V)(hp:V.2=true):lH f In 0 S (ui f S V):=by
 have h16:=hL.aK V hV;have hb:(sub V.1 7 2).length=2:=by rw[ay];omega
 have hc:(sub V.1 9 3).length=3:=by rw[ay];omega
 have hS:SA f S (.put (gi S.view 0) (sub V.1 7 2) (sub V.1 9 3)):=⟨rfl,hm,V,hV,hp,rfl,rfl⟩;obtain⟨h1,h2⟩:=Eh (In:=In) (M:=.put (gi S.view 0) (sub V.1 7 2) (sub V.1 9 3)) ⟨hb,hc⟩ (Kg f S.view) S (λi hi=>acp hi) hS;obtain⟨B,e⟩:=Ah (f:=f) (M:=.put (gi S.view 0) (sub V.1 7 2) (sub V.1 9 3)) (Kg f S.view) S;unfold ui;dsimp only;refine h1.t ?_;have L1:=pX h1 hL;rw[e]at h2 L1|-;rw[if_pos hm];exact AU (.nil _) λhe hm=>WL (S:={S with B:=B,round:=max S.round (gi (sub V.1 7 2) 0)}) hf (tC L1) hf hb hc hE rfl hm (by show gi (sub V.1 7 2) 0<=max S.round _;omega) (.inr ⟨rfl,hS⟩)
theorem SH{V:List Int×Bool}{a:Nat}{b h c:List Int}(hp:(ig V a b h c).2=true):(ig V a b h c).1.2=true:=by
 unfold ig at hp|-
 split
 ·rename_i h1;rw[if_pos h1]at hp;exact hp
 ·rename_i h1;rw[if_neg h1]at hp;cases hp
theorem Em(hf:f<5)(hL:dB S)(hE:Ep S)(hm:aI S.view (f:Int)=true){a:Nat}{b h c:List Int}(h2:h.length=2)(h3:c.length=3)(hh:Hr f In S a (.promise (gi S.view 0) b h c)):lH f In 0 S (je f S a b h c):=by
 unfold je;cases hV:S.aK with
 |none=>exact .nil S
 |some V=>
  have m1:=Mv.WG h2 h3 hV hh;dsimp only
  split
  ·rename_i ht
   exact m1.t (SG (S:={S with aK:=some (ig V a b h c).1}) hf (lK m1 hL) hE hm rfl (SH ht))
  ·exact m1.s
theorem xu(hf:f<5)(hL:dB S)(hE:Ep S){dst:Nat}{e:Int}{b h c:List Int}(hd:dst<5)(hb:b.length=2)(h2:h.length=2)(h3:c.length=3)(hs:SA f S (.promise e b h c)):lH f In 0 S (fZ f S dst e b h c):=by
 unfold fZ;split
 ·exact AU (.nil S) λhe hm=>Em (S:={S with round:=max S.round (gi b 0)}) hf (tC hL) hE hm h2 h3 (.inr ⟨rfl,rfl,hs.2⟩)
 ·exact(KV _ _ hd hs ⟨hb,h2,h3⟩).s
theorem WM(hf:f<5)(hL:dB S)(hE:Ep S){a:Nat}{e:Int}{b:List Int}(ha:a<5)(hb:b.length=2)(he:e=gi S.view 0)(hm:aI S.view (f:Int)=true)(hr0:gi b 0<=S.round):lH f In 0 S (uQ f S a e b):=by
 subst he;have h8:=hL.acc;unfold uQ;split
 ·rename_i h1
  have hr:vM S b:=by
   unfold vM;unfold rW at h1;cases h:cz (gi S.acc 0) (gi S.acc 1) (gi S.acc 2) (gi S.view 0) (gi b 0) (gi b 1)
   ·rfl
   ·rw[if_pos h]at h1;cases h1
  have e1:(rW S.acc (gi S.view 0) b).1=dF S.acc 1 b:=by
   unfold rW;rw[if_neg (by rw[show cz _ _ _ _ _ _=false from hr];simp)]
  rw[e1];have hsub:sub (dF S.acc 1 b) 1 2=b:=by rw[<-hb];exact aaQ OM
  have hl3:(sub (dF S.acc 1 b) 3 2).length=2:=by rw[ay];rw[aY]<;>omega
  have hl5:(sub (dF S.acc 1 b) 5 3).length=3:=by rw[ay];rw[aY]<;>omega
  have hd3:∀o n,3<=o->sub (dF S.acc 1 b) o n=sub S.acc o n:=λo n ho=>by
   unfold sub dF;rw[List.drop_append,List.drop_eq_nil_of_le (by rw[List.length_append,List.length_take];omega),List.nil_append,List.drop_drop,List.length_append,List.length_take];congr 2;omega
  split
  ·rename_i h2
   refine xu hf hL hE ha hb hl3 hl5 ⟨rfl,hm,?_,hd3 3 2 OM,hd3 5 3 OM⟩;rw[<-h2,hsub]
  ·have hR:Rs f In S (.tL (gi S.view 0) b):=.tL b hb hm hr (.inl hr0)
   split
   ·rename_i h3
    have m1:=Mv.tL hb hR hr0 h3;refine m1.t (xu (S:={(eT S (.tL (gi S.view 0) b)).1 with acc:=dF S.acc 1 b}) hf (lK m1 hL) ?_ ha hb hl3 hl5 ⟨rfl,hm,hsub.symm,rfl,rfl⟩);show gi (dF S.acc 1 b) 0=gi S.view 0;rw[<-hE];exact W43
   ·rename_i h3;exact(Mv.fail hR h3).s
 ·exact .nil S
theorem Gr(hf:f<5)(hL:dB S)(hE:Ep S)(hm:aI S.view (f:Int)=true){V:List Int×Bool}(hV:S.aK=some V):lH f In 0 S (oq f S V):=by
 have h16:=hL.aK V hV;have hb:(sub V.1 7 2).length=2:=by rw[ay];omega
 have hS:SA f S (.ask (gi S.view 0) (sub V.1 7 2)):=⟨rfl,hm,V,hV,rfl⟩;obtain⟨h1,h2⟩:=Eh (In:=In) (M:=.ask (gi S.view 0) (sub V.1 7 2)) hb (Kg f S.view) S (λi hi=>acp hi) hS;obtain⟨B,e⟩:=Ah (f:=f) (M:=.ask (gi S.view 0) (sub V.1 7 2)) (Kg f S.view) S;unfold oq;dsimp only;refine h1.t ?_;have L1:=pX h1 hL;rw[e]at h2 L1|-;rw[if_pos hm];exact AU (.nil _) λhe hm=>WM (S:={S with B:=B,round:=max S.round (gi (sub V.1 7 2) 0)}) hf (tC L1) hE hf hb rfl hm (by show gi (sub V.1 7 2) 0<=max S.round _;omega)
theorem P_(hf:f<5)(hL:dB S)(hE:Ep S)(hm:aI S.view (f:Int)=true){c:List Int}(hc:c.length=3)(hn:(bQ S.view c).2=0):
  lH f In 0 S (bT f S c).1∧((bT f S c).2=0->(bT f S c).1.aK=some (nX S.view [wrap64 (S.round+1),(f:Int)] c,false)∧Ep (bT f S c).1∧(bT f S c).1.view=S.view):=by
 unfold bT;dsimp only
 split
 ·rename_i h1
  have hr:vM S [wrap64 (S.round+1),(f:Int)]:=by
   unfold vM;unfold rW at h1;cases h:cz (gi S.acc 0) (gi S.acc 1) (gi S.acc 2) (gi S.view 0) (gi [wrap64 (S.round+1),(f:Int)] 0) (gi [wrap64 (S.round+1),(f:Int)] 1)
   ·rfl
   ·rw[if_pos h]at h1;cases h1
  have e1:(rW S.acc (gi S.view 0) [wrap64 (S.round+1),(f:Int)]).1=dF S.acc 1 [wrap64 (S.round+1),(f:Int)]:=by
   unfold rW;rw[if_neg (by rw[show cz _ _ _ _ _ _=false from hr];simp)]
  rw[e1];have hR:Rs f In S (.tL (gi S.view 0) [wrap64 (S.round+1),(f:Int)]):=.tL _ rfl hm hr (.inr rfl)
  split
  ·rename_i h3
   refine⟨(Mv.Ip rfl hc hn hR h3).s,λ_=>⟨rfl,?_,rfl⟩⟩;show gi (dF S.acc 1 _) 0=gi S.view 0;have h8:=hL.acc;rw[<-hE];exact W43
  ·rename_i h3
   exact⟨(Mv.fail hR h3).s,λh=>absurd h h3⟩
 ·exact⟨.nil S,λh=>by cases h⟩
theorem aeC(hf:f<5)(hL:dB S)(hE:Ep S){a:Nat}{M:gZ}(ha:a<5)(hM:M.Len)(h:In a M):lH f In 0 S (kI f S a M):=by
 have lr:∀ {z:Int},dB {S with round:=z}:=tC hL;have lv:lH f In 0 S (dM f S a (.view S.view)):=(KV (.view S.view) S ha rfl hL.view).s;cases M with
 |row w r=>exact aez hf hL ha hM.2 (.inl h)
 |kept n=>exact aeA hf hL
 |news w r=>exact aeB hM.2 h
 |ask e b=>exact AU (e:=e) (b:=b) (ans:=dM f S a (.view S.view)) (K:=λT=>uQ f T a e b) lv λhe hm=>WM (S:={S with round:=max S.round (gi b 0)}) hf lr hE ha hM he hm (by show gi b 0<=max S.round _;omega)
 |promise e b h' c=>exact AU (e:=e) (b:=b) (ans:=S) (K:=λT=>je f T a b h' c) (.nil S) λhe hm=>Em (S:={S with round:=max S.round (gi b 0)}) hf lr hE hm hM.2.1 hM.2.2 (.inl (by show In a (.promise (gi S.view 0) b h' c);rw[<-he];exact h))
 |put e b c=>exact AU (e:=e) (b:=b) (ans:=dM f S a (.view S.view)) (K:=λT=>sZ f T a e b c) lv λhe hm=>WL (S:={S with round:=max S.round (gi b 0)}) hf lr ha hM.1 hM.2 hE he hm (by show gi b 0<=max S.round _;omega) (.inl h)
 |taken e b=>exact AU (e:=e) (b:=b) (ans:=S) (K:=λT=>nH f T a b) (.nil S) λhe hm=>KY (S:={S with round:=max S.round (gi b 0)}) hf lr ha hm (.inl (by show In a (.taken (gi S.view 0) b);rw[<-he];exact h))
 |view v=>exact Ir hf hL hM (.told a (.inl h))
 |bR w v=>exact N7 hf hL ha hM.1 hM.2 (.inl h)
 |iU w r=>exact KW hf hL hM.1 hM.2 (.inl h)
end
end
section
open B (aI dY fH dX jL lC gN nX cz bQ nY)
section
variable {f:Nat}{In:Nat->gZ->Prop}{n m k:Nat}{S S1 S2:RS}
theorem wG{zs ws:List Int}{o:Nat}(ho:0<o)(hz:0<zs.length):gi (dF zs o ws) 0=gi zs 0:=by
 exact W43
theorem acr(hm:Mv f In n S S1)(h:dB S∧Ep S):dB S1∧Ep S1:=by
 refine⟨lK hm h.1,?_⟩;have h8:=h.1.acc;cases hm with
 |out _ _ _=>obtain⟨B,e⟩:=tu (f:=f) S _ _;rw[e];exact h.2
 |tL hb _ _ _=>exact(wG OM OM).trans h.2
 |Ip hb _ _ _ _=>exact(wG OM OM).trans h.2
 |take _ _ _ _=>exact h.2
 |view _ _ _=>rfl
 |_=>exact h.2
theorem En(h:lH f In k S S1)(hL:dB S)(hE:Ep S):dB S1∧Ep S1:=ze (λ_ _ _=>acr) h ⟨hL,hE⟩
theorem j_{zs:List Int}(hz:zs.length=870){i:Nat}(hi:i<5):(C.rowOf zs (i:Int)).length=174:=by
 unfold C.rowOf
 split
 ·rw[ay];omega
 ·exact aa 174
theorem aeD(hf:f<5)(hL:dB S)(hE:Ep S):lH f In 0 S (rC f S):=by
 unfold rC;dsimp only;have h1:lH f In 0 S (if S.busy=true then gz f S else S):=by
  split
  ·exact Gp hf hL
  ·exact .nil S
 generalize(if S.busy=true then gz f S else S)=S1 at h1|-;obtain⟨L1,E1⟩:=En h1 hL hE;have h2:=Iq (In:=In) hf L1;obtain⟨L2,E2⟩:=En h2 L1 E1;have h3:=P9 (In:=In) hf L2;obtain⟨L3,E3⟩:=En h3 L2 E2;refine h1.t (h2.t (h3.t ?_));clear h1 h2 h3;generalize kr f (jH f S1)=S2 at L3 E3|-;have h1:lH f In 0 S2 (if 1<gi S2.view 0 then gG f S2 S2.view else S2):=by
  split
  ·exact Ej L3
  ·exact .nil S2
 generalize(if 1<gi S2.view 0 then gG f S2 S2.view else S2)=S3 at h1|-;obtain⟨L1,E1⟩:=En h1 L3 E3;refine h1.t ?_;clear h1
 split
 ·rename_i hm
  have h1:lH f In 0 S3 (if 0<gi (C.rowOf S3.book (f:Int)) 0 then fu f S3 (C.rowOf S3.book (f:Int))else S3)∧(if 0<gi (C.rowOf S3.book (f:Int)) 0 then fu f S3 (C.rowOf S3.book (f:Int))else S3).view=S3.view:=by
   split
   ·exact⟨Ei hf (j_ L1.book hf) (.inr rfl),EY f S3 _⟩
   ·exact⟨.nil S3,rfl⟩
  generalize(if 0<gi (C.rowOf S3.book (f:Int)) 0 then fu f S3 (C.rowOf S3.book (f:Int))else S3)=S4 at h1|-;obtain⟨h1,hv⟩:=h1;obtain⟨L4,E4⟩:=En h1 L1 E1;refine h1.t ?_;rw[<-hv]at hm;cases hV:S4.aK with
  |none=>exact .nil S4
  |some V=>
   have h16:=L4.aK V hV;dsimp only
   split
   ·rename_i hn
    obtain⟨hb,hb2⟩:=P_ (In:=In) hf L4 E4 hm (c:=sub V.1 9 3) (by rw[ay];omega) hn
    split
    ·rename_i h0
     obtain⟨e1,e2,e3⟩:=hb2 h0;refine hb.t ?_;have hL5:=pX hb L4;rw[AO,e1];exact Gr hf hL5 e2 (by rw[e3];exact hm) e1
    ·exact hb
   ·exact .nil S4
 ·exact .nil S3
theorem Gs:∀(ss:List (List UInt8)) (D:DS) (at_:Int),0<=(iT D at_ ss).2∧(iT D at_ ss).2<=5
 | [],D,at_=>by show(0:Int)<=0∧(0:Int)<=5;omega
 |s::r,D,at_=>by
  have hw:0<=(bK D at_ s).2∧(bK D at_ s).2<=5:=by
   unfold bK;split
   ·show(0:Int)<=5∧(5:Int)<=5;omega
   ·split
    ·show(0:Int)<=4∧(4:Int)<=5;omega
    ·show(0:Int)<=0∧(0:Int)<=5;omega
  unfold iT;split
  ·exact Gs r _ _
  ·exact hw
theorem Gt(S:RS)(x:Rec):oN (eT S x).2:=by
 have h:0<=(eT S x).2∧(eT S x).2<=5:=by
  show 0<=(cO S.D S.cnt S.used x.W).2.2.2∧(cO S.D S.cnt S.used x.W).2.2.2<=5;unfold cO;split
  ·show(0:Int)<=2∧(2:Int)<=5;omega
  ·split
   ·show(0:Int)<=3∧(3:Int)<=5;omega
   ·have hp:=Gs (jd (S.cnt+1) x.W (fI x.W.length)) S.D S.used
    dsimp only
    split
    ·split
     ·show(0:Int)<=0∧(0:Int)<=5;omega
     ·unfold di;split
      ·show(0:Int)<=4∧(4:Int)<=5;omega
      ·show(0:Int)<=0∧(0:Int)<=5;omega
    ·exact hp
 unfold oN;omega
theorem N8(S:RS)(c:List Int):oN (bT f S c).2:=by
 unfold bT;dsimp only
 split
 ·split
  ·unfold oN;simp
  ·exact Gt S _
 ·unfold oN;simp
theorem SK(v c:List Int):oN (bQ v c).2:=by
 unfold B.bQ;split
 ·unfold oN;simp
 ·split<;>(unfold oN;simp)
theorem pG:oN 0:=by unfold oN;omega
theorem SL(S:RS)(x:List Int)(op:Int):oN (gY f S x op).2:=by
 unfold gY;split
 ·exact pG
 ·exact Gt S _
theorem WN(hf:f<5)(hL:dB S)(hE:Ep S)(hm:aI S.view (f:Int)=true){op:Int}(hop:oN op){c:List Int}(hc:c.length=3):lH f In 1 S (jD f S op c).1:=by
 unfold jD;split
 ·rename_i h0
  split
  ·obtain⟨hb,hb2⟩:=P_ (In:=In) hf hL hE hm hc h0
   have hL5:=pX hb hL
   split
   ·rename_i h1
    obtain⟨e1,e2,e3⟩:=hb2 h1;have m1:Mv f In 1 (bT f S c).1 (bW (bT f S c).1 op 0 0):=.xq hop pG pG;refine hb.trans (m1.s.trans (Gr (S:=bW (bT f S c).1 op 0 0) hf (lK m1 hL5) e2 ?_ ?_) (Nat.le_refl _)) OM
    ·show aI (bT f S c).1.view _=true;rw[e3];exact hm
    ·show(bT f S c).1.aK=_;rw[AO,e1];rfl
   ·exact hb.trans (Mv.xq (f:=f) (In:=In) hop (N8 _ _) pG).s OM
  ·exact(Mv.xq hop (by unfold oN;omega) pG).s
 ·exact(Mv.xq hop (SK _ _) pG).s
theorem SN{kd dst key num:Int}(hk3:kd≠3)(h:(qB f S kd dst key num).2.2=0):Grow f S (qB f S kd dst key num).1:=by
 have put:∀yu,yu<2->aI S.view (f:Int)=true->S.busy=false->(C.jK S.own (1+key.toNat*7+yu) key num).2=0->Grow f S (C.jK S.own (1+key.toNat*7+yu) key num).1:=by
  intro yu hfl hm hb h;unfold C.jK at h|-
  split at h
  ·rename_i ha
   obtain⟨a1,a2,a3,a4⟩:=C.vC ha
   split at h
   ·cases h
   ·rename_i hle
    rw[if_pos ha,if_neg hle];exact .more key.toNat yu num OM OM a3 a4 (by unfold C.cntF;rw[if_pos hfl];omega) rfl hb hm
  ·cases h
 unfold qB at h|-
 split at h
 ·cases h
 ·rename_i hm
  rw[if_neg hm]
  split at h
  ·cases h
  ·rename_i hk
   rw[if_neg hk];rw[if_neg hk3]
   split at h
   ·cases h
   ·rename_i hb
    have hm':aI S.view (f:Int)=true:=by simpa using hm
    have hb':S.busy=false:=by simpa using hb
    rw[if_neg hb];dsimp only at h|-;generalize hg:(if kd=0 then C.jK S.own (1+key.toNat*7) key num else if kd=1 then C.jK S.own (1+key.toNat*7+1) key num else if kd=2 then(if dst≠(f:Int)then C.kD S.own key num dst else(aj 174,5))else(aj 174,5))=g at h|-
    split at h
    ·rename_i h0
     rw[if_pos h0]
     split at h
     ·cases h
     ·rename_i hr
      rw[if_neg hr];show Grow f S g.1;subst hg
      split at h0
      ·rename_i e;rw[if_pos e];exact put 0 OM hm' hb' h0
      ·rename_i e;rw[if_neg e]
       split at h0
       ·rename_i e;rw[if_pos e];exact put 1 OM hm' hb' h0
       ·rename_i e;rw[if_neg e]
        split at h0
        ·rename_i e;rw[if_pos e]
         split at h0
         ·rename_i e;rw[if_pos e]
          unfold C.kD at h0|-
          split at h0
          ·rename_i ha
           obtain⟨a1,a2,a3,a4⟩:=C.vC ha.2
           split at h0
           ·cases h0
           ·rename_i hle
            rw[if_pos ha,if_neg hle];have h5:dst.toNat<5:=by have:=ha.1;simp only[C.aP,Bool.and_eq_true,decide_eq_true_eq]at this;omega
            exact .more key.toNat (2+dst.toNat) num OM OM a3 a4 (by unfold C.cntF;rw[if_neg OM];omega) (by rw[<-Nat.add_assoc]) hb' hm'
          ·cases h0
         ·cases h0
        ·cases h0
    ·rename_i h0;exact absurd h h0
theorem Gu(hk:C.Bk S.book)(kd dst key num:Int):oN (qB f S kd dst key num).2.2∧oN (qB f S kd dst key num).2.1:=by
 have hv:=C.wD hk key 5;have pc:∀i,oN (C.jK S.own i key num).2:=λi=>by
  unfold C.jK;split
  ·split<;>(unfold oN;simp)
  ·unfold oN;simp
 have gc:oN (C.kD S.own key num dst).2:=by
  unfold C.kD;split
  ·split<;>(unfold oN;simp)
  ·unfold oN;simp
 unfold qB
 split
 ·unfold oN;simp
 ·split
  ·unfold oN;simp
  ·split
   ·refine⟨pG,?_⟩
    show oN (C.xV S.book key 5);unfold oN;simp at hv;omega
   ·split
    ·unfold oN;simp
    ·dsimp only
     have hgc:oN (if kd=0 then C.jK S.own (1+key.toNat*7) key num else if kd=1 then C.jK S.own (1+key.toNat*7+1) key num else if kd=2 then(if dst≠(f:Int)then C.kD S.own key num dst else(aj 174,5))else(aj 174,5)).2:=by
      split
      ·exact pc _
      ·split
       ·exact pc _
       ·split
        ·split
         ·exact gc
         ·unfold oN;simp
        ·unfold oN;simp
     generalize(if kd=0 then C.jK S.own (1+key.toNat*7) key num else if kd=1 then C.jK S.own (1+key.toNat*7+1) key num else if kd=2 then(if dst≠(f:Int)then C.kD S.own key num dst else(aj 174,5))else(aj 174,5))=g at hgc|-
     split
     ·split
      ·unfold oN;simp
      ·exact⟨pG,pG⟩
     ·exact⟨hgc,pG⟩
theorem WO(hf:f<5)(hL:dB S)(hE:Ep S)(hk:C.Bk S.book){kd dst key num:Int}{c:List Int}(hc:c.length=3):lH f In 1 S (fG f S kd dst key num c).1:=by
 have m0:Mv f In 0 S {S with ops:=wrap64 (S.ops+1)}:=.ops;have go:∀T:RS,dB T->Ep T->C.Bk T.book->oN T.ops->lH f In 1 T (if aI T.view (f:Int)=true∧kd=4 then jD f T T.ops c else
   (let p:=qB f T kd dst key num
    if p.2.2≠0∨kd=3 then(bW T T.ops p.2.2 p.2.1,p.2.2)
    else if(gY f T p.1 T.ops).2=0 then gY f T p.1 T.ops else(bW (gY f T p.1 T.ops).1 T.ops (gY f T p.1 T.ops).2 0,(gY f T p.1 T.ops).2))).1:=by
  intro T L0 E0 K0 hop;dsimp only
  split
  ·rename_i h;exact WN hf L0 E0 h.1 hop hc
  ·split
   ·exact(Mv.xq hop (Gu K0 _ _ _ _).1 (Gu K0 _ _ _ _).2).s
   ·rename_i h
    have hk3:kd≠3:=λe=>h (.inr e)
    have hg:=SN (f:=f) (S:=T) hk3 (Decidable.byContradiction λe=>h (.inl e))
    split
    ·exact WH hf L0 (λ_=>rfl) hop hg
    ·rename_i h0
     have hgc:=SL (f:=f) T (qB f T kd dst key num).1 T.ops;unfold gY at h0 hgc|-
     split
     ·rename_i h1;rw[if_pos h1]at h0;exact absurd rfl h0
     ·rename_i h1
      rw[if_neg h1]at hgc;exact(Mv.fail (f:=f) (In:=In) (Rs.row _ hg) h1).s.trans (Mv.xq hop hgc pG).s OM
 exact m0.t (go {S with ops:=wrap64 (S.ops+1)} (lK m0 hL) hE hk (by show oN (wrap64 (S.ops+1));unfold oN wrap64;omega))
def Ma(S:RS):Nat:=S.aV.length+if 0<S.waits then 1 else 0
theorem aeE(hm:Mv f In n S S1):Ma S1<=Ma S+n:=by
 have le:∀ {a b:Nat} (p:Prop) [Decidable p],a=b->a+(if p then 1 else 0)<=b+1:=λp _ h=>by split<;>omega
 cases hm with
 |out _ _ _=>obtain⟨B,e⟩:=tu (f:=f) S _ _;rw[e];exact Nat.le_refl _
 | @row _ _ _ op h _ _ _ _=>
  show S.aV.length+(if 0<op then 1 else 0)<=_;unfold Ma;by_cases h0:0<op
  ·rw[if_pos h0,h h0];split<;>omega
  ·rw[if_neg h0];split<;>omega
 |done h=>
  show(S.aV++[_]).length+(if(0:Int) <0 then 1 else 0)<=_;unfold Ma;rw[if_pos h,if_neg OM,List.length_append];simp
 |xq _ _ _=>
  show(S.aV++[_]).length+(if 0<S.waits then 1 else 0)<=_;unfold Ma;rw[List.length_append];simp;omega
 |_=>exact Nat.le_add_right _ _
theorem aaR(h:lH f In k S S1):Ma S1<=Ma S+k:=by
 induction h with
 |nil=>exact Nat.le_add_right _ _
 |cons a b c ih=>have:=aeE a;omega
structure WQ (S:RS):Prop where
 w:oN S.waits
 r:∀r∈S.aV,∀x∈r,oN x
theorem aeF(hm:Mv f In n S S1)(h:WQ S):WQ S1:=by
 have ap:∀ {op e z:Int},oN op->oN e->oN z->∀r∈S.aV++[[op,e,z]],∀x∈r,oN x:=λh1 h2 h3 r hr x hx=>by
  rcases List.mem_append.1 hr with hr|hr
  ·exact h.r r hr x hx
  ·rw[List.mem_singleton.1 hr]at hx
   simp only[List.mem_cons,List.not_mem_nil,or_false]at hx;rcases hx with rfl|rfl|rfl
   ·exact h1
   ·exact h2
   ·exact h3
 cases hm with
 | @out _ t M _ _ _=>obtain⟨B,e⟩:=tu (f:=f) S t M;rw[e];exact⟨h.w,h.r⟩
 |row _ ho _ _ _=>exact⟨ho,h.r⟩
 |done _=>exact⟨pG,ap h.w pG pG⟩
 |xq h1 h2 h3=>exact⟨h.w,ap h1 h2 h3⟩
 |_=>exact⟨h.w,h.r⟩
theorem aaS(h:lH f In k S S1):WQ S->WQ S1:=ze (λ_ _ _ h=>aeF h) h
end
end
section
open B (aI dY fH dX jL lC gN nX cz bQ nY)
theorem mf{zs:List Int}:dU zs↔∀x∈zs,oN x:=by
 constructor
 ·intro h x hx
  obtain⟨i,hi⟩:=List.getElem?_of_mem hx;have:=h i;unfold gi at this
  rwa [List.getD_eq_getElem?_getD,hi]at this
 ·intro h i
  unfold gi;rw[List.getD_eq_getElem?_getD];cases e:zs[i]? with
  |none=>show _<=(0:Int)∧(0:Int)<=_;omega
  |some x=>exact h x (List.mem_of_getElem? e)
theorem dU.sub{zs:List Int}(h:dU zs)(o n:Nat):dU (sub zs o n):=
 mf.2 λx hx=>mf.1 h x (List.mem_of_mem_drop (List.mem_of_mem_take hx))
theorem dU.dF{zs ws:List Int}(h:dU zs)(hw:dU ws)(o:Nat):dU (dF zs o ws):=
 mf.2 λx hx=>by
  unfold Go.Proofs.YtdakkaapokhnnaaGreatDoor.dF at hx;rw[List.mem_append,List.mem_append]at hx;rcases hx with(hx|hx) |hx
  ·exact mf.1 h x (List.mem_of_mem_take hx)
  ·exact mf.1 hw x hx
  ·exact mf.1 h x (List.mem_of_mem_drop hx)
theorem Qc{y l:List Int}(hy:dU y)(hl:dU l){i:Nat}{h:Int}(hh:oN h):dU (C.Dn y i h l):=(nI hy hh _).dF hl _
theorem WZ{x dead:List Int}(hx:dU x)(hd:dU dead)(who:Int):dU (C.uh x who dead).1:=by
 have tl:∀j,dU (C.lV who dead (C.lD x who dead) j):=by
  intro j
  induction j with
  |zero=>exact Qc hx (hd.sub _ _) (mo _)
  |succ j ih=>
   unfold C.lV C.jS
   split
   ·exact Qc ih ((hd.sub _ _).sub _ _) (hd _)
   ·exact ih
 unfold C.uh
 split
 ·split
  ·exact pY 174
  ·exact nI (tl 5) (mo _) _
 ·exact pY 174
theorem Gw{y l:List Int}{i:Nat}{h:Int}(hy:y.length=174)(hl:l.length=28)(hi:i<5):C.cellsOf (C.Dn y i h l)=C.cellsOf y:=by
 unfold C.cellsOf C.Dn;rw[C.xh _ _ _ _ _ (by rw[List.length_set];omega) OM,C.lU _ _ _ _ _ OM]
theorem sU{y l:List Int}{i:Nat}{h:Int}(hy:y.length=174)(hl:l.length=28)(hi:i<5):(C.Dn y i h l).length=174:=by
 unfold C.Dn;rw[aY,List.length_set];omega
theorem Oc{x dead:List Int}(hx:x.length=174)(hd:dead.length=174){who:Int}(h0:(C.uh x who dead).2=0):C.cellsOf (C.uh x who dead).1=C.cellsOf x:=by
 unfold C.uh at h0|-
 split
 ·rename_i hm
  rw[if_pos hm]at h0;have h5:who.toNat<5:=by simp only[C.aP,Bool.and_eq_true,decide_eq_true_eq]at hm;omega
  have tl:∀j,j<=5->(C.lV who dead (C.lD x who dead) j).length=174∧C.cellsOf (C.lV who dead (C.lD x who dead) j)=C.cellsOf x:=by
   have hc:(C.cellsOf dead).length=28:=by unfold C.cellsOf;rw[ay];omega
   intro j hj
   induction j with
   |zero=>exact⟨sU hx hc h5,Gw hx hc h5⟩
   |succ j ih=>
    obtain⟨i1,i2⟩:=ih OM;unfold C.lV C.jS
    split
    ·have hl:(C.leftOf dead j).length=28:=by unfold C.leftOf;rw[ay,ay];omega
     exact⟨sU i1 hl OM,(Gw i1 hl OM).trans i2⟩
    ·exact⟨i1,i2⟩
  split
  ·rename_i h;rw[if_pos h]at h0;cases h0
  ·show C.cellsOf ((C.lV who dead (C.lD x who dead) 5).set 0 _)=_
   rw[C.cellsOf,C.lU _ _ _ _ _ OM];exact(tl 5 OM).2
 ·rename_i hm;rw[if_neg hm]at h0;cases h0
theorem Ai{last:List Int}(hl:last.length=870)(h64:dU last):∀ {l:List Nat} {x y:List Int},(∀i∈l,i<5)->x.length=174->dU x->gm last x l=some y->dU y∧C.cellsOf y=C.cellsOf x
 | [],x,y,_,hx,hr,h=>by rw[gm,Option.some.injEq]at h;rw[<-h];exact⟨hr,rfl⟩
 |i::l,x,y,h5,hx,hr,h=>by
  have hd:(rowAt last i).length=174:=by have:=h5 i SI;unfold rowAt;rw[ay];omega
  rw[gm]at h
  split at h
  ·exact Ai hl h64 (λj hj=>h5 j (List.mem_cons_of_mem _ hj)) hx hr h
  ·split at h
   ·rename_i h0
    obtain⟨a,b⟩:=Ai hl h64 (λj hj=>h5 j (List.mem_cons_of_mem _ hj)) (C.Dr _ _ _ hx hd) (WZ hr (h64.sub _ _) _) h;exact⟨a,b.trans (Oc hx hd h0)⟩
   ·cases h
theorem aaT{x:List Int}{key yu:Nat}{n:Int}(hx:x.length=174)(h64:dU x)(hr:C.vG x)(hk:key<4)(hf:yu<7)(hn:1<=n)(hc:C.cntF x key yu<=1099511627776-n):C.vG (C.jc x (1+key*7+yu) n)∧dU (C.jc x (1+key*7+yu) n):=by
 have ho:=C.VD key yu n hx hr hk hf hn hc;refine⟨ho,?_⟩;have hg:gi (C.jc x (1+key*7+yu) n) (1+key*7+yu)=gi x (1+key*7+yu)+n:=by
  unfold C.jc;rw[C.xP,if_neg OM,C.xP,if_pos ⟨rfl,by omega⟩]
 have hb:C.JZ (gi x (1+key*7+yu)+n):=by
  rw[<-hg];obtain⟨a,b,c,d⟩:=C.yY ho key hk;have:yu=0∨yu=1∨2<=yu:=by omega
  rcases this with rfl|rfl|h2
  ·exact a
  ·exact b
  ·refine c _ ?_
   have e:=nQ (C.jc x (1+key*7+yu) n) (1+key*7+2) 5 (yu-2) OM;rw[show 1+key*7+2+(yu-2)=1+key*7+yu by omega]at e;rw[<-e];unfold gi;rw[List.getD_eq_getElem?_getD];have hlen:yu-2< (sub (C.jc x (1+key*7+yu) n) (1+key*7+2) 5).length:=by rw[ay,C.FU];omega
   rw[List.getElem?_eq_getElem hlen];exact List.getElem_mem hlen
 unfold C.JZ at hb;exact nI (nI h64 OM _) (mo _) _
structure Hi (D:DS):Prop where
 w:∀p∈D.waits,p.1<2048
 s:∀k,2048<=k->D.sure k=jR 64
theorem zk{D:DS}(h:Hi D)(at_:Int)(bs:List UInt8):Hi (bK D at_ bs).1:=by
 unfold bK;split
 ·exact h
 ·rename_i h1
  split
  ·exact⟨h.w,h.s⟩
  ·refine⟨λp hp=>?_,h.s⟩
   rcases List.mem_append.1 hp with hp|hp
   ·exact h.w p hp
   ·rw[List.mem_singleton.1 hp];show at_<2048;omega
theorem La:∀(ws:List (Int×List UInt8)) (s:Int->List UInt8),(∀p∈ws,p.1<2048)->(∀k,2048<=k->s k=jR 64)->∀k,2048<=k->pE s ws k=jR 64
 | [],s,_,hs,k,hk=>hs k hk
 |p::ws,s,hw,hs,k,hk=>by
  refine La ws (tX s p.1 p.2) (λq hq=>hw q (List.mem_cons_of_mem _ hq)) (λj hj=>?_) k hk;have:=hw p SI;unfold tX;rw[if_neg OM];exact hs j hj
theorem wH{D:DS}(h:Hi D):Hi (di D).1:=by
 unfold di;split
 ·exact h
 ·exact⟨λp hp=>by simp at hp,La _ _ h.w h.s⟩
theorem BD:∀(ss:List (List UInt8)) {D:DS} (at_:Int),Hi D->Hi (iT D at_ ss).1
 | [],D,at_,h=>h
 |s::r,D,at_,h=>by
  unfold iT;split
  ·exact BD r _ (zk h _ _)
  ·exact zk h _ _
theorem aeH{D:DS}(h:Hi D)(cnt used:Nat)(b:List UInt8):Hi (cO D cnt used b).1:=by
 unfold cO;split
 ·exact h
 ·split
  ·exact h
  ·dsimp only
   split
   ·split
    ·exact wH (BD _ _ h)
    ·exact wH (BD _ _ h)
   ·exact BD _ _ h
theorem zl:∀(n:Nat) {D:DS} (at_:Nat),Hi D->Hi (iI D at_ n).1
 |0,D,at_,h=>h
 |n+1,D,at_,h=>by
  unfold iI;split
  ·exact zl n _ h
  ·split
   ·exact zl n _ (zk h _ _)
   ·exact zk h _ _
theorem aaU{D:DS}(h:Hi D):Hi (dZ D).2.1:=by
 unfold dZ;dsimp only
 split
 ·split
  ·exact wH (zl _ _ h)
  ·exact wH (zl _ _ h)
 ·exact zl _ _ h
theorem W_{ws:List (Int×List UInt8)}(hw:∀p∈ws,p.1<2048)(mask iQ:Int)(cut:Nat){s:Int->List UInt8}(hs:∀k,2048<=k->s k=jR 64):∀j k,2048<=k->Ue ws mask iQ cut s j k=jR 64
 |0,k,hk=>hs k hk
 |j+1,k,hk=>by
  have ih:=W_ hw mask iQ cut hs j;unfold Ue;dsimp only;cases e:ws[j]? with
  |none=>exact ih k hk
  |some p=>
   have:=hw p (List.mem_of_getElem? e);dsimp only
   split
   ·unfold tX;rw[if_neg OM];exact ih k hk
   ·split
    ·unfold tX;rw[if_neg OM];exact ih k hk
    ·exact ih k hk
theorem Xa{D:DS}(h:Hi D)(mask iQ cut:Int):Hi (rQ D mask iQ cut):=⟨λp hp=>(by cases hp),W_ h.w _ _ _ h.s _⟩
theorem yl{ws:List (Int×List UInt8)}{at_:Int}(h:∀p∈ws,p.1≠at_):∀n,sM ws at_ n=none
 |0=>rfl
 |n+1=>by
  unfold sM;cases e:ws[n]? with
  |none=>exact yl h n
  |some p=>dsimp only;rw[if_neg (h p (List.mem_of_getElem? e))];exact yl h n
theorem Od{D:DS}(h:Hi D):yQ (eP D):=λk hk=>by
 unfold eP;rw[yl (λp hp=>by have:=h.w p hp;omega),Option.getD_none,h.s k hk];unfold jR;simp
theorem agQ{M:gZ}(h:M.Len):M.W.length<=3000:=by
 have I:=aT;cases M with
 |row w r=>have h1:=I [0,(w:Int)];have h2:=oL h.2;simp only[gZ.W,ab_,List.length_append,List.length_cons,List.length_nil]at*;omega
 |kept n=>have h1:=I [1,n];simp only[gZ.W,aca,List.length_append,List.length_cons,List.length_nil]at*;omega
 |news w r=>have h1:=I [2,(w:Int)];have h2:=oL h.2;simp only[gZ.W,acb,List.length_append,List.length_cons,List.length_nil]at*;omega
 |ask e b=>have h1:=I [3,e];have h2:=I b;have h3:b.length=2:=h;simp only[gZ.W,acd,List.length_append,List.length_cons,List.length_nil]at*;omega
 |promise e b h' c=>obtain⟨h5,h6,h7⟩:=h;have h1:=I [4,e];have h2:=I b;have h3:=I h';have h4:=I c;simp only[gZ.W,PO,List.length_append,List.length_cons,List.length_nil]at*;omega
 |put e b c=>obtain⟨h5,h6⟩:=h;have h1:=I [5,e];have h2:=I b;have h4:=I c;simp only[gZ.W,PQ,List.length_append,List.length_cons,List.length_nil]at*;omega
 |taken e b=>have h1:=I [6,e];have h2:=I b;have h3:b.length=2:=h;simp only[gZ.W,ace,List.length_append,List.length_cons,List.length_nil]at*;omega
 |view v=>have h1:=I [7];have h2:=I v;have h3:v.length=7:=h;simp only[gZ.W,acf,List.length_append,List.length_cons,List.length_nil]at*;omega
 |bR w v=>have h1:=I [8,(w:Int)];have h2:=I v;have h3:v.length=7:=h.2;simp only[gZ.W,acg,List.length_append,List.length_cons,List.length_nil]at*;omega
 |iU w r=>have h1:=I [9,(w:Int)];have h2:=oL h.2;simp only[gZ.W,ach,List.length_append,List.length_cons,List.length_nil]at*;omega
abbrev NQ(B:Nat->List (List UInt8)):Prop:=∀i,(B i).length<=8∧∀b∈B i,b.length<=100000
theorem Iu{B:Nat->List (List UInt8)}(h:NQ B){i:Nat}{q:List (List UInt8)}(hq:q.length<=8∧∀b∈q,b.length<=100000):NQ (gL B i q):=λj=>by
 unfold gL;split
 ·exact hq
 ·exact h j
theorem aaV{f t:Nat}{S:RS}(h:NQ S.B){M:gZ}(hM:M.Len):NQ (dM f S t M).B:=by
 unfold dM;split
 ·exact h
 ·refine Iu h ?_
  have h1:=h (f*5+t);unfold F4;split
  ·refine⟨by rw[List.length_append];simp;omega,λb hb=>?_⟩
   rcases List.mem_append.1 hb with hb|hb
   ·exact h1.2 b hb
   ·rw[List.mem_singleton.1 hb]
    have:=agQ hM;unfold A.o6 A.xJ;simp only[List.length_append,List.length_cons,A.Po];omega
  ·exact h1
structure Iw (S:RS):Prop where
 len:dB S
 ep:Ep S
 view:dU S.view
 own:C.vG S.own
 iM:dU S.own
 bV:dU S.bV
 last:dU S.last
 book:C.Bk S.book
 hi:Hi S.D
 net:NQ S.B
section
variable {f:Nat}{In:Nat->gZ->Prop}{n m k:Nat}{S S1 S2:RS}
theorem Lb{zs:List Int}{bs:List Bool}{w:Int}{r:List Int}(hz:dU zs)(hr:dU r):dU (C.jZ zs bs w r):=by
 unfold C.jZ;split
 ·exact hz.dF hr _
 ·exact hz
theorem Xb(hin:∀a M,In a M->M.Ok)(h:Iw S){v:List Int}(hv:SC f In S v):dU v:=by
 cases hv with
 |told a hh=>
  rcases hh with hh|hh
  ·exact(hin _ _ hh).2.2.1
  ·rw[show v=S.view from hh.2];exact h.view
 |bR a w hh=>
  rcases hh with hh|hh
  ·exact(hin _ _ hh).2.2.2.1
  ·rw[show v=S.view from hh.2.2];exact h.view
 |chosen V a b _ _ _ _ _ e=>rw[e];exact K7 h.view _
theorem Xc(h:Iw S){x:List Int}(hg:Grow f S x):C.vG x∧dU x:=by
 cases hg with
 |more key yu n h1 h2 h3 _ h4 e _ _=>rw[e];exact aaT h.len.own h.iM h.own h1 h2 h3 h4
 |come _ _ _ e=>
  obtain⟨a,b⟩:=Ai h.len.last h.last (λi hi=>aey hi) h.len.own h.iM e;refine⟨?_,a⟩;unfold C.vG;rw[b];exact h.own
theorem aaW(hin:∀a M,In a M->M.Ok)(h:Iw S){a w:Nat}{r:List Int}(hh:Hr f In S a (.row w r)):dU r:=by
 rcases hh with hh|hh
 ·exact(hin _ _ hh).2.2.2.1
 ·rw[show r=S.own from hh.2.2];exact h.iM
theorem Oe(hin:∀a M,In a M->M.Ok)(h:Iw S){a w:Nat}{r:List Int}(hh:Hr f In S a (.iU w r)):dU r:=by
 rcases hh with hh|hh
 ·exact(hin _ _ hh).2.2.2.1
 ·rw[show r=rowAt S.bV w from hh.2.2.2];exact h.bV.sub _ _
theorem aeI(hin:∀a M,In a M->M.Ok)(hm:Mv f In n S S1)(h:Iw S):Iw S1:=by
 obtain⟨hl,he⟩:=acr hm ⟨h.len,h.ep⟩;have hp:∀x,Hi (eT S x).1.D:=λx=>aeH h.hi _ _ _
 cases hm with
 | @out _ t M _ _ hM=>
  have hn:=aaV (f:=f) (t:=t) h.net hM;obtain⟨B,e⟩:=tu (f:=f) S t M;rw[e]at hl he hn|-;exact⟨hl,he,h.view,h.own,h.iM,h.bV,h.last,h.book,h.hi,hn⟩
 |fail _ _=>exact⟨hl,he,h.view,h.own,h.iM,h.bV,h.last,h.book,hp _,h.net⟩
 |row _ _ hg _ _=>
  obtain⟨a,b⟩:=Xc h hg;exact⟨hl,he,h.view,a,b,h.bV,h.last,h.book,hp _,h.net⟩
 |eD _ hr _=>
  cases hr with
  |eD _ _ _ hh _=>exact⟨hl,he,h.view,h.own,h.iM,Lb h.bV (aaW hin h hh),h.last,h.book,hp _,h.net⟩
 |bR _ _=>exact⟨hl,he,h.view,h.own,h.iM,h.bV,h.last,h.book,hp _,h.net⟩
 |tL _ _ _ _=>exact⟨hl,he,h.view,h.own,h.iM,h.bV,h.last,h.book,hp _,h.net⟩
 |Ip _ _ _ _ _=>exact⟨hl,he,h.view,h.own,h.iM,h.bV,h.last,h.book,hp _,h.net⟩
 |take _ _ _ _=>exact⟨hl,he,h.view,h.own,h.iM,h.bV,h.last,h.book,hp _,h.net⟩
 |view _ hr _=>
  cases hr with
  |view _ _ _ hs=>exact⟨hl,he,Xb hin h hs,h.own,h.iM,h.bV,h.last,h.book,hp _,h.net⟩
 |hear _ _ hh _=>
  refine⟨hl,he,h.view,h.own,h.iM,h.bV,?_,h.book,h.hi,h.net⟩;show dU (if _ then _ else _)
  split
  ·exact h.last.dF (Oe hin h hh) _
  ·exact h.last
 |kept=>exact⟨hl,he,h.view,h.own,h.iM,h.bV,h.last,h.book,h.hi,h.net⟩
 |book hr hh=>
  refine⟨hl,he,h.view,h.own,h.iM,h.bV,h.last,h.book.merge _ _ hr ?_,h.hi,h.net⟩;rcases hh with hh|hh
  ·exact(hin _ _ hh).2.2.2.1
  ·rw[hh.2];exact h.iM
 |idle=>exact⟨hl,he,h.view,h.own,h.iM,h.bV,h.last,h.book,h.hi,h.net⟩
 |done _=>exact⟨hl,he,h.view,h.own,h.iM,h.bV,h.last,h.book,h.hi,h.net⟩
 |xq _ _ _=>exact⟨hl,he,h.view,h.own,h.iM,h.bV,h.last,h.book,h.hi,h.net⟩
 |round _=>exact⟨hl,he,h.view,h.own,h.iM,h.bV,h.last,h.book,h.hi,h.net⟩
 |WG _ _ _ _=>exact⟨hl,he,h.view,h.own,h.iM,h.bV,h.last,h.book,h.hi,h.net⟩
 |taken _ _=>exact⟨hl,he,h.view,h.own,h.iM,h.bV,h.last,h.book,h.hi,h.net⟩
 |ops=>exact⟨hl,he,h.view,h.own,h.iM,h.bV,h.last,h.book,h.hi,h.net⟩
theorem aaX(hin:∀a M,In a M->M.Ok)(hm:lH f In n S S1)(h:Iw S):Iw S1:=ze (λ_ _ _ h=>aeI hin h) hm h
end
end
section
open B (dY)
theorem ll(w:World)(g c i k:Nat)(v:Bool)(hv:Hid (decide (k∈dS i)=v))(hr:Rd w (some ⟨g,0,none⟩) ((dS i).map iN)):
  Calls prog 153 #[.slice (some ⟨g,0,none⟩) 2 c,.int .i64 (k:Int)] w λe w'=>e=.returned (.bool v)∧w'=w:=by
 have e1:decide ((k:Int)∈(dS i).map λ(n:Nat)=>(n:Int))=v:=by
  rw[<-hv.out,decide_eq_decide];simp only[List.mem_map]
  constructor
  ·rintro⟨a,ha,hk⟩
   have:a=k:=by omega
   exact this▸ha
  ·intro h;exact⟨k,h,rfl⟩
 have h:=IC g 2 c ((dS i).map λ(n:Nat)=>(n:Int)) (k:Int) w (by simp[dS]) OM (by rw[List.map_map];exact hr);rw[e1]at h;exact h
theorem yG(w0:World)(X:RX)(Y:RY)(S:RS)(hX:zG X)(hI:Inv (ah X Y S).own w0 w0 [ah X Y S])(V:List Int)(hvw:Hid (dU V))(hV:S.view=V):Calls prog 79 #[.pointer (some ⟨X.b,0,none⟩),oV X] w0 λe w'=>∃Y' S',e=.returned (.tuple #[])∧Hid (jH X.f S=S')∧Inv (ah X Y S).own w0 w' [ah X Y' S']:=by
 subst hV;refine(aeV w0 X Y S hX hvw hI).mono ?_;exact W46
theorem Qh{k:Nat}(h:k<5):wrap64 (2^k)=2^k:=by
 exact W93
section
variable (w0:World)(X:RX)(Y:RY)(S:RS)(hX:zG X)
include hX
theorem XD(k:Nat)(hk5:k<5)(i:Nat)(hi5:i<5)(z r:List Int)(hz:z.length=192)(h1:gi z 1=(i:Int))(h2:gi z 2=gi r 0)(hs:sub z 2 174=r)(hr:r.length=174)(hvw:Hid (dU S.view))(hI:Inv (ah X Y S).own w0 w0 [ah X Y S]):
  Calls prog 119 #[.pointer (some ⟨X.b,0,none⟩),oV X,.int .i64 (k:Int),ia z] w0 λe w'=>∃Y',e=.returned (.tuple #[])∧Inv (ah X Y S).own w0 w' [ah X Y' (iP X.f S k i r)]:=by
 have aiG:(i:Int) <5:=by omega
 have aiH:k<64:=by omega
 have hwr:=Qh hk5;have vg:(k:Int).toNat=k:=by simp
 cases hc0:decide (k∈dS i)
 ·have hcn:=HD hc0
  have hF:Hid (iP X.f S k i r=jH X.f S):=HD (by rw[iP,if_neg (by simpa using hc0)]);clear hc0;go_enter func119,ntmps119;go_wp2_with(first|refine YL ?_|refine YX ?_;intro bx w hI|go_at_call 121;refine KO hI (wZ _ i hi5) ?_;intro g cw w1 hI|go_at_call 153;refine KR (ll _ g cw i k _ hcn (hI.rd aA)) ?_|go_at_call 79;refine KJ hI (yG _ X _ _ hX (hI.at_ aX) _ hvw RF) ?_;intro Y2 S2 w1 hS2 hI);rw[hF.out,hS2.out];exact W83
 ·have hcn:=HD hc0
  by_cases hq:gi S.told i=0∨gi S.last (i*174) <gi r 0
  ·have hF:Hid (iP X.f S k i r=jH X.f {S with last:=dF S.last (i*174) r,told:=S.told.set i (Uj (gi S.told i) k)}):=HD (by rw[iP,if_pos (by simpa using hc0),if_pos hq])
   clear hc0;cases ht:(gi S.told i==0)
   ·have hd:decide (gi S.last (i*174) <gi r 0)=true:=by
     simp at ht;simpa[ht]using hq
    clear hq;go_enter func119,ntmps119;go_upto_region 2 with(first|refine YL ?_|refine YX ?_;intro bx w hI|go_at_call 121;refine KO hI (wZ _ i hi5) ?_;intro g cw w1 hI|go_at_call 153;refine KR (ll _ g cw i k _ hcn (hI.rd aA)) ?_)
    refine ZT [5,6,7,8,20,21] 22 hI ?_;intro wd hI
    (repeat(refine ZQ ?_;go_wp2_with(refine YL ?_);refine ZP ?_))
    exact W75
   ·clear hq
    go_enter func119,ntmps119;go_upto_region 2 with(first|refine YL ?_|refine YX ?_;intro bx w hI|go_at_call 121;refine KO hI (wZ _ i hi5) ?_;intro g cw w1 hI|go_at_call 153;refine KR (ll _ g cw i k _ hcn (hI.rd aA)) ?_)
    refine ZT [5,6,7,8,20,21] 22 hI ?_;intro wd hI
    (repeat(first|refine ZS ?_|refine ZQ ?_;go_wp2_with(refine YL ?_);refine ZP ?_))
    exact W75
  ·have hF:Hid (iP X.f S k i r=jH X.f {S with told:=S.told.set i (Uj (gi S.told i) k)}):=HD (by rw[iP,if_pos (by simpa using hc0),if_neg hq])
   have ht:(gi S.told i==0)=false:=by simp;exact λh=>hq (.inl h)
   have hd:decide (gi S.last (i*174) <gi r 0)=false:=by simp;have:=λh=>hq (.inr h);omega
   clear hq hc0;go_enter func119,ntmps119;go_upto_region 2 with(first|refine YL ?_|refine YX ?_;intro bx w hI|go_at_call 121;refine KO hI (wZ _ i hi5) ?_;intro g cw w1 hI|go_at_call 153;refine KR (ll _ g cw i k _ hcn (hI.rd aA)) ?_)
   refine ZT [5,6,7,8,20,21] 22 hI ?_;intro wd hI
   (repeat(refine ZQ ?_;go_wp2_with(refine YL ?_);refine ZP ?_))
   exact W14
end
end
