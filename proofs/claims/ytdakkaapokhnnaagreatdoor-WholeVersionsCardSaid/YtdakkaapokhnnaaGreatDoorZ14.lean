/- Contracts of functions. No condition. -/
import Derived.Test.YtdakkaapokhnnaaGreatDoorZ09
namespace Go.Proofs.YtdakkaapokhnnaaGreatDoor
open Go.RowKit Go.Proofs.Tryz
set_option maxRecDepth 100000
set_option maxHeartbeats 6400000
set_option linter.all false
theorem dF(w0 pr ab bs lim x v){k cs}(hs:(eZ pr ab bs).sat w0)(hn:(eZ pr ab bs).own.Nodup)(hk:iI lim bs=some (k,cs))(hx:x=(lim:Int))(hv:(k:Int)=v):
  Calls prog 136 #[.pointer (some ⟨pr,0,none⟩),.int .i64 x] w0 λe w'=>e=.returned (.int .i64 v)∧Inv (eZ pr ab bs).own w0 w' [eZ pr ab cs]:=by
 grind[dZ]
theorem wZ{bs cs x}(h:jl bs=some (x,cs)):GY bs=some (ia (nn x),cs):=by rw[GY,h];rfl
theorem Eb{bs}(h:jl bs=none):GY bs=none:=by rw[GY,h];rfl
theorem jd{ls bs cs x}(h:bJ ls bs=some (x,cs)):wJ ls bs=some (ia (nn x),cs):=by rw[wJ,h];rfl
theorem mQ{ls bs}(h:bJ ls bs=none):wJ ls bs=none:=by rw[wJ,h];rfl
theorem tL{lim bs cs k}(h:iI lim bs=some (k,cs)):k<lim:=by
 unfold iI at h;rcases hn1:f_ bs with _| ⟨k1,cs1⟩
 all_goals grind
theorem Ky{bs cs k}(h:f_ bs=some (k,cs)):k<9223372036854775808:=by
 rw[<-u_]at h;exact tL h
theorem Ap{ls}(hl:∀l∈ls,l<=9223372036854775808):∀ {bs cs ns},bJ ls bs=some (ns,cs)->∀n∈ns,n<9223372036854775808:=by
 induction ls with
 |nil=>grind[Dg]
 |cons l ls ih=>
  intro bs cs ns h;obtain⟨k,c,ks,h1,h2,rfl⟩:=rD h;intro n hn;rcases List.mem_cons.1 hn with rfl|hn
  ·have:=tL h1;have:=hl l SI;omega
  grind
theorem Qv{ns}(h:∀n∈ns,n<9223372036854775808):∀i,-9223372036854775808<gi (nn ns) i∧gi (nn ns) i<=9223372036854775807:=λi=>by
 grind[gi,nn,List.getElem_mem]
theorem xN:∀ {n bs cs gs ks},mF n bs=some ((gs,ks),cs)->gs.length=n∧ks.length=28*n
 |0,bs,cs,gs,ks,h=>by
  grind[mF]
 |n+1,bs,cs,gs,ks,h=>by
  simp only[mF]at h;rcases h1:f_ bs with _| ⟨g,c⟩
  ·grind
  ·by_cases hg:0<g
   ·rcases h2:v_ 28 c with _| ⟨x,d⟩
    ·grind
    ·rcases h3:mF n d with _| ⟨⟨gs',ks'⟩,e⟩
     ·grind
     ·have:=xN h3
      have hx:x.length=28:=by have:=eF h2;grind
      grind
   ·rcases h3:mF n c with _| ⟨⟨gs',ks'⟩,e⟩
    ·grind
    ·have:=xN h3
     grind
theorem lM{bs cs x}(h:jl bs=some (x,cs)):x.length=174:=by
 unfold jl at h;rcases h1:f_ bs with _| ⟨k,c⟩
 ·grind
 ·rw[h1]at h;simp only[Option.bind_some]at h
  rcases h2:v_ 28 c with _| ⟨y,d⟩
  ·grind
  ·rcases h3:mF 5 d with _| ⟨⟨gs,ks⟩,e⟩
   ·grind
   ·have:=xN h3
    have hy:y.length=28:=by have:=eF h2;grind
    grind
