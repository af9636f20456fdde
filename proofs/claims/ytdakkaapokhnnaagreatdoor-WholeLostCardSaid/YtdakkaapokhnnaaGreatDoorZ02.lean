/- Contracts of functions. No condition. -/
import Derived.BigQuiet
import Derived.Carry
import Derived.ChangeOld
import Derived.Conc.LoneSelect
import Derived.Conc.LoneSelectN
import Derived.Deep.AppendSrc
import Derived.Deep.CutBlock
import Derived.Deep.DeepCutAuto
import Derived.Deep.LoopGhost
import Derived.Deep.Quiet
import Derived.Deep.RegionWith
import Derived.Deep.Upon
import Derived.Defers
import Derived.LaidMore
import Derived.Laws.AppendOwnNone
import Derived.Laws.BitsLemmas
import Derived.Laws.BytesArg
import Derived.Laws.Externs
import Derived.Laws.MakeOwn
import Derived.Laws.OwnMore
import Derived.Laws.Strings
import Derived.Lib.AppendIntMem
import Derived.Lib.AppendStr
import Derived.Lib.Builder
import Derived.Lib.Hide
import Derived.Lib.ItoaLen
import Derived.Lib.LaidTab
import Derived.Lib.QuietBelow
import Derived.Lib.SlBytesConst
import Derived.Lib.Slices
import Derived.Lib.UnsafeStr
import Derived.MapKept
import Derived.OpenShut
import Derived.ProofKit
import Derived.Recover
import Derived.ShutString
import Derived.SizedLaws
import Derived.StillTail
import Derived.Stop.Joined
import Derived.Tactics2
import Derived.WalkKit
import Derived.WalkLawsBesides
import Derived.Test.YtdakkaapokhnnaaGreatDoorZ01
namespace Go.Proofs.YtdakkaapokhnnaaGreatDoor
open Go.RowKit Go.Proofs.Tryz
set_option maxRecDepth 100000
set_option maxHeartbeats 6400000
set_option linter.all false
instance:bG prog 28 5:=⟨⟨KF,KF⟩⟩
instance:bG prog 30 7:=⟨⟨KF,KF⟩⟩
instance:bG prog 37 7:=⟨⟨KF,KF⟩⟩
instance:bG prog 38 28:=⟨⟨KF,KF⟩⟩
instance:bG prog 39 140:=⟨⟨KF,KF⟩⟩
instance:bG prog 41 174:=⟨⟨KF,KF⟩⟩
instance:bG prog 46 870:=⟨⟨KF,KF⟩⟩
instance:bG prog 48 3:=⟨⟨KF,KF⟩⟩
instance:bG prog 50 11:=⟨⟨KF,KF⟩⟩
instance:bG prog 54 5:=⟨⟨KF,KF⟩⟩
instance:bG prog 68 2:=⟨⟨KF,KF⟩⟩
instance:bG prog 70 3:=⟨⟨KF,KF⟩⟩
instance:bG prog 77 5:=⟨⟨KF,KF⟩⟩
instance:bG prog 82 5:=⟨⟨KF,KF⟩⟩
instance:bG prog 84 5:=⟨⟨KF,KF⟩⟩
instance:bG prog 86 16:=⟨⟨KF,KF⟩⟩
instance:bG prog 89 875:=⟨⟨KF,KF⟩⟩
instance:bG prog 91 2:=⟨⟨KF,KF⟩⟩
instance:bG prog 93 8:=⟨⟨KF,KF⟩⟩
instance:bG prog 96 870:=⟨⟨KF,KF⟩⟩
instance:bG prog 98 2818:=⟨⟨KF,KF⟩⟩
instance:bG prog 105 2:=⟨⟨KF,KF⟩⟩
instance:bG prog 117 3:=⟨⟨KF,KF⟩⟩
instance:bG prog 118 35:=⟨⟨KF,KF⟩⟩
instance:bG prog 137 5:=⟨⟨KF,KF⟩⟩
instance:bG prog 143 189:=⟨⟨KF,KF⟩⟩
instance:bG prog 158 192:=⟨⟨KF,KF⟩⟩
instance:bG prog 169 64:=⟨⟨KF,KF⟩⟩
instance:bG prog 171 65:=⟨⟨KF,KF⟩⟩
instance:bG prog 185 3:=⟨⟨KF,KF⟩⟩
instance:bG prog 208 17:=⟨⟨KF,KF⟩⟩
instance:aO prog 2:=⟨⟨KF,KF⟩⟩
instance:aO prog 3:=⟨⟨KF,KF⟩⟩
instance:aO prog 4:=⟨⟨KF,KF⟩⟩
instance:aO prog 5:=⟨⟨KF,KF⟩⟩
instance:aO prog 9:=⟨⟨KF,KF⟩⟩
instance:aO prog 20:=⟨⟨KF,KF⟩⟩
instance:aO prog 22:=⟨⟨KF,KF⟩⟩
instance:aO prog 26:=⟨⟨KF,KF⟩⟩
instance:aO prog 32:=⟨⟨KF,KF⟩⟩
instance:aO prog 51:=⟨⟨KF,KF⟩⟩
instance:aO prog 58:=⟨⟨KF,KF⟩⟩
instance:aO prog 63:=⟨⟨KF,KF⟩⟩
instance:aO prog 65:=⟨⟨KF,KF⟩⟩
instance:aO prog 66:=⟨⟨KF,KF⟩⟩
instance:aO prog 74:=⟨⟨KF,KF⟩⟩
instance:aO prog 80:=⟨⟨KF,KF⟩⟩
instance:aO prog 81:=⟨⟨KF,KF⟩⟩
instance:aO prog 83:=⟨⟨KF,KF⟩⟩
instance:aO prog 87:=⟨⟨KF,KF⟩⟩
instance:aO prog 94:=⟨⟨KF,KF⟩⟩
instance:aO prog 128:=⟨⟨KF,KF⟩⟩
instance:aO prog 125:=⟨⟨KF,KF⟩⟩
instance:aO prog 134:=⟨⟨KF,KF⟩⟩
instance:aO prog 135:=⟨⟨KF,KF⟩⟩
instance:aO prog 138:=⟨⟨KF,KF⟩⟩
instance:aO prog 148:=⟨⟨KF,KF⟩⟩
instance:aO prog 173:=⟨⟨KF,KF⟩⟩
instance:aO prog 175:=⟨⟨KF,KF⟩⟩
instance:aO prog 181:=⟨⟨KF,KF⟩⟩
instance:aO prog 189:=⟨⟨KF,KF⟩⟩
instance:aO prog 225:=⟨⟨KF,KF⟩⟩
instance:aO prog 226:=⟨⟨KF,KF⟩⟩
instance:aO prog 239:=⟨⟨KF,KF⟩⟩
instance:aO prog 247:=⟨⟨KF,KF⟩⟩
instance:aO prog 256:=⟨⟨KF,KF⟩⟩
instance:wW prog 50 11:=⟨by unfold fe;kernel_rfl⟩
instance:IZ prog 50:=⟨by unfold dC;kernel_rfl⟩
instance:wW prog 30 7:=⟨by unfold fe;kernel_rfl⟩
instance:IZ prog 30:=⟨by unfold dC;kernel_rfl⟩
instance:wW prog 37 7:=⟨by unfold fe;kernel_rfl⟩
instance:IZ prog 37:=⟨by unfold dC;kernel_rfl⟩
instance:wW prog 38 28:=⟨by unfold fe;kernel_rfl⟩
instance:IZ prog 38:=⟨by unfold dC;kernel_rfl⟩
instance:wW prog 39 140:=⟨by unfold fe;kernel_rfl⟩
instance:IZ prog 39:=⟨by unfold dC;kernel_rfl⟩
instance:wW prog 41 174:=⟨by unfold fe;kernel_rfl⟩
instance:IZ prog 41:=⟨by unfold dC;kernel_rfl⟩
instance:wW prog 28 5:=⟨by unfold fe;kernel_rfl⟩
instance:IZ prog 28:=⟨by unfold dC;kernel_rfl⟩
instance:wW prog 48 3:=⟨by unfold fe;kernel_rfl⟩
instance:IZ prog 48:=⟨by unfold dC;kernel_rfl⟩
instance:wW prog 91 2:=⟨by unfold fe;kernel_rfl⟩
instance:IZ prog 91:=⟨by unfold dC;kernel_rfl⟩
instance:wW prog 93 8:=⟨by unfold fe;kernel_rfl⟩
instance:IZ prog 93:=⟨by unfold dC;kernel_rfl⟩
instance:wW prog 158 192:=⟨by unfold fe;kernel_rfl⟩
instance:IZ prog 158:=⟨by unfold dC;kernel_rfl⟩
instance:wW prog 143 189:=⟨by unfold fe;kernel_rfl⟩
instance:IZ prog 143:=⟨by unfold dC;kernel_rfl⟩
instance:wW prog 117 3:=⟨by unfold fe;kernel_rfl⟩
instance:IZ prog 117:=⟨by unfold dC;kernel_rfl⟩
instance:wW prog 46 870:=⟨by unfold fe;kernel_rfl⟩
instance:IZ prog 46:=⟨by unfold dC;kernel_rfl⟩
instance:wW prog 118 35:=⟨by unfold fe;kernel_rfl⟩
instance:IZ prog 118:=⟨by unfold dC;kernel_rfl⟩
instance:wW prog 96 870:=⟨by unfold fe;kernel_rfl⟩
instance:IZ prog 96:=⟨by unfold dC;kernel_rfl⟩
instance:qV prog 28 5:=⟨C.YK⟩
instance:qV prog 37 7:=⟨C.YM⟩
instance:qV prog 38 28:=⟨C.kU⟩
instance:qV prog 39 140:=⟨C.YN⟩
instance:qV prog 41 174:=⟨C.O4⟩
instance:qV prog 91 2:=⟨B.kU⟩
instance:qV prog 48 3:=⟨B.YO⟩
instance:qV prog 93 8:=⟨B.YP⟩
instance:qV prog 30 7:=⟨B.YR⟩
instance:zL prog 28 5 3 1:=⟨⟨KF,KF⟩⟩
instance:zL prog 38 4 37 7:=⟨⟨KF,KF⟩⟩
instance:zL prog 39 5 38 28:=⟨⟨KF,KF⟩⟩
instance:zL prog 46 5 41 174:=⟨⟨KF,KF⟩⟩
instance:zL prog 118 5 37 7:=⟨⟨KF,KF⟩⟩
instance:zL prog 77 5 32 1:=⟨⟨KF,KF⟩⟩
instance:zL prog 82 5 81 1:=⟨⟨KF,KF⟩⟩
instance:zL prog 169 64 5 1:=⟨⟨KF,KF⟩⟩
instance:zL prog 84 5 83 1:=⟨⟨KF,KF⟩⟩
instance:zL prog 54 5 4 1:=⟨⟨KF,KF⟩⟩
instance:tK prog 63 5 1 1 (.int .u8 0):=⟨⟨by kernel_rfl,by kernel_rfl,by kernel_rfl,by decide⟩⟩
instance:tK prog 74 3 1 8 (.int .i64 0):=⟨⟨by kernel_rfl,by kernel_rfl,by kernel_rfl,by decide⟩⟩
instance:tK prog 138 63 1 24 (.slice none 0 0):=⟨⟨by kernel_rfl,by kernel_rfl,by kernel_rfl,by decide⟩⟩
instance:tK prog 83 117 3 24 (ia (aj 3)):=⟨⟨by kernel_rfl,by kernel_rfl,by kernel_rfl,by decide⟩⟩
instance:tK prog 22 50 11 88 (ia (aj 11)):=⟨⟨by kernel_rfl,by kernel_rfl,by kernel_rfl,by decide⟩⟩
instance:sD prog 143:=⟨_,underlying143,by kernel_rfl⟩
instance:dQ prog 143 0 0 1:=⟨_,underlying143,by kernel_rfl⟩
instance:dQ prog 143 1 1 1:=⟨_,underlying143,by kernel_rfl⟩
instance:dQ prog 143 2 2 174:=⟨_,underlying143,by kernel_rfl⟩
instance:dQ prog 143 3 176 1:=⟨_,underlying143,by kernel_rfl⟩
instance:dQ prog 143 4 177 2:=⟨_,underlying143,by kernel_rfl⟩
instance:dQ prog 143 5 179 3:=⟨_,underlying143,by kernel_rfl⟩
instance:dQ prog 143 6 182 7:=⟨_,underlying143,by kernel_rfl⟩
instance:sD prog 158:=⟨_,underlying158,by kernel_rfl⟩
instance:dQ prog 158 0 0 1:=⟨_,underlying158,by kernel_rfl⟩
instance:dQ prog 158 1 1 1:=⟨_,underlying158,by kernel_rfl⟩
instance:dQ prog 158 2 2 174:=⟨_,underlying158,by kernel_rfl⟩
instance:dQ prog 158 3 176 1:=⟨_,underlying158,by kernel_rfl⟩
instance:dQ prog 158 4 177 1:=⟨_,underlying158,by kernel_rfl⟩
instance:dQ prog 158 5 178 2:=⟨_,underlying158,by kernel_rfl⟩
instance:dQ prog 158 6 180 2:=⟨_,underlying158,by kernel_rfl⟩
instance:dQ prog 158 7 182 3:=⟨_,underlying158,by kernel_rfl⟩
instance:dQ prog 158 8 185 7:=⟨_,underlying158,by kernel_rfl⟩
instance:sD prog 91:=⟨_,underlying91,by kernel_rfl⟩
instance:dQ prog 91 0 0 1:=⟨_,underlying91,by kernel_rfl⟩
instance:dQ prog 91 1 1 1:=⟨_,underlying91,by kernel_rfl⟩
instance:sD prog 93:=⟨_,underlying93,by kernel_rfl⟩
instance:dQ prog 93 0 0 1:=⟨_,underlying93,by kernel_rfl⟩
instance:dQ prog 93 1 1 2:=⟨_,underlying93,by kernel_rfl⟩
instance:dQ prog 93 2 3 2:=⟨_,underlying93,by kernel_rfl⟩
instance:dQ prog 93 3 5 3:=⟨_,underlying93,by kernel_rfl⟩
instance:sD prog 117:=⟨_,underlying117,by kernel_rfl⟩
instance:dQ prog 117 0 0 1:=⟨_,underlying117,by kernel_rfl⟩
instance:dQ prog 117 1 1 1:=⟨_,underlying117,by kernel_rfl⟩
instance:dQ prog 117 2 2 1:=⟨_,underlying117,by kernel_rfl⟩
instance:sD prog 50:=⟨_,underlying50,by kernel_rfl⟩
instance:dQ prog 50 0 0 1:=⟨_,underlying50,by kernel_rfl⟩
instance:dQ prog 50 1 1 1:=⟨_,underlying50,by kernel_rfl⟩
instance:dQ prog 50 2 2 1:=⟨_,underlying50,by kernel_rfl⟩
instance:dQ prog 50 3 3 1:=⟨_,underlying50,by kernel_rfl⟩
instance:dQ prog 50 4 4 1:=⟨_,underlying50,by kernel_rfl⟩
instance:dQ prog 50 5 5 3:=⟨_,underlying50,by kernel_rfl⟩
instance:dQ prog 50 6 8 1:=⟨_,underlying50,by kernel_rfl⟩
instance:dQ prog 50 7 9 1:=⟨_,underlying50,by kernel_rfl⟩
instance:dQ prog 50 8 10 1:=⟨_,underlying50,by kernel_rfl⟩
instance:sD prog 48:=⟨_,underlying48,by kernel_rfl⟩
instance:dQ prog 48 0 0 1:=⟨_,underlying48,by kernel_rfl⟩
instance:dQ prog 48 1 1 1:=⟨_,underlying48,by kernel_rfl⟩
instance:dQ prog 48 2 2 1:=⟨_,underlying48,by kernel_rfl⟩
instance:sD prog 30:=⟨_,underlying30,by kernel_rfl⟩
instance:dQ prog 30 0 0 1:=⟨_,underlying30,by kernel_rfl⟩
instance:dQ prog 30 1 1 1:=⟨_,underlying30,by kernel_rfl⟩
instance:dQ prog 30 2 2 5:=⟨_,underlying30,by kernel_rfl⟩
theorem eO:prog.follows .mixedOrders=true:=by kernel_rfl
theorem KC{P:Program}{f:FuncId}{args:Array Value}{w:World}{Q:Ending->World->Prop}{T:List Nat}{w0:World}{m m':List aG}{r r':aG}{v:Value}(hu:aR r r' m m')(hI:Inv T w0 w m)(h:Calls P f args w λe w'=>e=.returned v∧Inv r.own w w' [r'])(k:∀w',Inv T w0 w' m'->Q (.returned v) w'):Calls P f args w Q:=h.mono λe w' hh=>by obtain⟨rfl,hJ⟩:=hh;exact k w' (hI.on hJ hu)
theorem KD{P:Program}{f:FuncId}{args:Array Value}{w:World}{Q:Ending->World->Prop}{T:List Nat}{w0:World}{m:List aG}{v:Value}(hI:Inv T w0 w m)(h:Calls P f args w λe w'=>e=.returned v∧Below w.heap.size w w')(k:∀w',Inv T w0 w' m->Q (.returned v) w'):Calls P f args w Q:=h.mono λe w' hh=>by obtain⟨rfl,hJ⟩:=hh;exact k w' (hI.call hJ)
theorem KE{P:Program}{f:FuncId}{args:Array Value}{w:World}{Q:Ending->World->Prop}{T:List Nat}{w0:World}{m:List aG}{v:Value}(h:Calls P f args w λe w'=>e=.returned v∧Inv T w0 w' m)(k:∀w',Inv T w0 w' m->Q (.returned v) w'):Calls P f args w Q:=h.mono λe w' hh=>by obtain⟨rfl,hJ⟩:=hh;exact k w' hJ
theorem ZR{T:List Nat}{w0:World}{m:List aG}{P:Program}{id:Nat}{l:List Oper}{Q:Exit->Act->World->Prop}{a:Act}{w:World}(S F G L:List Nat)(C:World->Prop)(hI:Inv T w0 w m)(h:∀wd,Inv T w0 wd m->jW P l.toArray S F G C Q L a wd)(hm:P.follows .mixedOrders=true:=by exact eO)(hB:YF l.toArray S F G L=true:=by kernel_rfl):(Code.region id l.toArray true).wp P Q a w:=G5 S F G L C hm hB (h _ hI.drew)
section
variable {P:Program}{l:List Oper}{S F G:List Nat}{C:World->Prop}{Q:Exit->Act->World->Prop}{i:Nat}{is:List Nat}{a:Act}{w:World}{dst:Option Tmp}{op:Op}{ty:TypeId}{pos:String}{af:Array Edge}{g:Option (Nat×Bool)}
theorem ZA(h:wpList P l.toArray (sqK P l.toArray S F G C Q is false) [⟨dst,op,ty,pos,af,none⟩] a w)(ho:l[i]? =some ⟨dst,op,ty,pos,af,g⟩:=by with_unfolding_all rfl)(hS:S.elem i=true:=by with_unfolding_all rfl)(hG:G.elem i=false:=by with_unfolding_all rfl)(hw:Region.wanted ⟨dst,op,ty,pos,af,g⟩ (yielded l.toArray a.tmps)=true:=by with_unfolding_all rfl):jW P l.toArray S F G C Q (i::is) a w:=TJ ho hS hG hw h
theorem ZB(h:wpList P l.toArray (sqK P l.toArray S F G C Q is true) [⟨dst,op,ty,pos,af,none⟩] a w)(ho:l[i]? =some ⟨dst,op,ty,pos,af,g⟩:=by with_unfolding_all rfl)(hS:S.elem i=true:=by with_unfolding_all rfl)(hG:G.elem i=true:=by with_unfolding_all rfl)(hw:Region.wanted ⟨dst,op,ty,pos,af,g⟩ (yielded l.toArray a.tmps)=true:=by with_unfolding_all rfl):jW P l.toArray S F G C Q (i::is) a w:=TJ ho hS hG hw h
theorem ZC(h:wpList P l.toArray (sqR P l.toArray S F G C Q is w) [⟨dst,op,ty,pos,af,none⟩] a w)(ho:l[i]? =some ⟨dst,op,ty,pos,af,g⟩:=by with_unfolding_all rfl)(hS:S.elem i=false:=by with_unfolding_all rfl)(hF:F.elem i=false:=by with_unfolding_all rfl)(hw:Region.wanted ⟨dst,op,ty,pos,af,g⟩ (yielded l.toArray a.tmps)=true:=by with_unfolding_all rfl)(hp:G6 op=true:=by with_unfolding_all rfl):jW P l.toArray S F G C Q (i::is) a w:=YH ho hS hF hw hp h
theorem ZD{v:Value}(hC:C w)(hv:∀w,C w->fP P ⟨dst,op,ty,pos,af,none⟩ a w v)(h:jW P l.toArray S F G C Q is (a.put dst v) w)(ho:l[i]? =some ⟨dst,op,ty,pos,af,g⟩:=by with_unfolding_all rfl)(hS:S.elem i=false:=by with_unfolding_all rfl)(hF:F.elem i=true:=by with_unfolding_all rfl)(hw:Region.wanted ⟨dst,op,ty,pos,af,g⟩ (yielded l.toArray a.tmps)=true:=by with_unfolding_all rfl):jW P l.toArray S F G C Q (i::is) a w:=jB ho hS hF hw hC hv h
end
theorem vV:(∀(x:aG) (l:List aG) (n:Nat),(x::l).eraseIdx (n+1)=x::l.eraseIdx n)∧(∀(x:aG) (l:List aG),(x::l).eraseIdx 0=l):=⟨λ_ _ _=>rfl,λ_ _=>rfl⟩
theorem ZL{p q:Prop}(k:q)(h:q->p:=by intro k;replace k:=HD k;(with_reducible refine QL RF RF (by intro w;unfold fP;go_simp;with_reducible rfl) ?_);(simp only[QN]);exact k.out):p:=h k
theorem Inv.tl{T:List Nat}{w0 w:World}{x:aG}{m:List aG}(h:Inv T w0 w (x::m)):Inv T w0 w m:=h.sub (.cons _ (.refl _))
section
variable {P:Program}{f:FuncId}{args:Array Value}{w:World}{Q:Ending->World->Prop}{T:List Nat}{w0:World}{m:List aG}{r:aG}{α β γ:Type}{ε:Ending}
theorem KR{v:Value}(h:Calls P f args w λe w'=>e=.returned v∧w'=w)(k:Q (.returned v) w):Calls P f args w Q:=h.mono λe w' hh=>by obtain⟨rfl,rfl⟩:=hh;exact k
theorem KI{m':List aG}{r':aG}(hI:Inv T w0 w m)(h:Calls P f args w λe w'=>e=ε∧Inv r.own w w' [r'])(k:∀w',Inv T w0 w' m'->Q ε w')(hu:aR r r' m m':=by exact UU):Calls P f args w Q:=h.mono λe w' hh=>by obtain⟨rfl,hJ⟩:=hh;exact k w' (hI.on hJ hu)
theorem KN{m':α->List aG}{r':α->aG}(hI:Inv T w0 w m)(h:Calls P f args w λe w'=>e=ε∧∃y,Inv r.own w w' [r' y])(k:∀y w',Inv T w0 w' (m' y)->Q ε w')(hu:∀y,aR r (r' y) m (m' y):=by intro _;exact UU):Calls P f args w Q:=h.mono λe w' hh=>by obtain⟨rfl,y,hJ⟩:=hh;exact k y w' (hI.on hJ (hu y))
theorem KG{m':α->List aG}{r':α->aG}{v:α->Value}(hI:Inv T w0 w m)(h:Calls P f args w λe w'=>∃y,e=.returned (v y)∧Inv r.own w w' [r' y])(k:∀y w',Inv T w0 w' (m' y)->Q (.returned (v y)) w')(hu:∀y,aR r (r' y) m (m' y):=by intro _;exact UU):Calls P f args w Q:=h.mono λe w' hh=>by obtain⟨y,rfl,hJ⟩:=hh;exact k y w' (hI.on hJ (hu y))
theorem KH{m':α->β->List aG}{r':α->β->aG}{v:α->β->Value}(hI:Inv T w0 w m)(h:Calls P f args w λe w'=>∃y z,e=.returned (v y z)∧Inv r.own w w' [r' y z])(k:∀y z w',Inv T w0 w' (m' y z)->Q (.returned (v y z)) w')(hu:∀y z,aR r (r' y z) m (m' y z):=by intro _ _;exact UU):Calls P f args w Q:=h.mono λe w' hh=>by obtain⟨y,z,rfl,hJ⟩:=hh;exact k y z w' (hI.on hJ (hu y z))
theorem KJ{m':α->β->List aG}{r':α->β->aG}{v:α->β->Value}{p:α->β->Prop}(hI:Inv T w0 w m)(h:Calls P f args w λe w'=>∃y z,e=.returned (v y z)∧p y z∧Inv r.own w w' [r' y z])(k:∀y z w',p y z->Inv T w0 w' (m' y z)->Q (.returned (v y z)) w')(hu:∀y z,aR r (r' y z) m (m' y z):=by intro _ _;exact UU):Calls P f args w Q:=h.mono λe w' hh=>by obtain⟨y,z,rfl,hp,hJ⟩:=hh;exact k y z w' hp (hI.on hJ (hu y z))
theorem KK{m':α->β->List aG}{x r':α->β->aG}{v:α->β->Value}(hI:Inv T w0 w m)(h:Calls P f args w λe w'=>∃y z,e=.returned (v y z)∧Inv r.own w w' [x y z,r' y z])(k:∀y z w',Inv T w0 w' (x y z::m' y z)->Q (.returned (v y z)) w')(hu:∀y z,aR r (r' y z) m (m' y z):=by intro _ _;exact UU):Calls P f args w Q:=h.mono λe w' hh=>by obtain⟨y,z,rfl,hJ⟩:=hh;exact k y z w' (hI.Ml hJ (hu y z))
theorem KL{m':α->β->γ->List aG}{x r':α->β->γ->aG}{v:α->β->γ->Value}(hI:Inv T w0 w m)(h:Calls P f args w λe w'=>∃y z t,e=.returned (v y z t)∧Inv r.own w w' [x y z t,r' y z t])(k:∀y z t w',Inv T w0 w' (x y z t::m' y z t)->Q (.returned (v y z t)) w')(hu:∀y z t,aR r (r' y z t) m (m' y z t):=by intro _ _ _;exact UU):Calls P f args w Q:=h.mono λe w' hh=>by obtain⟨y,z,t,rfl,hJ⟩:=hh;exact k y z t w' (hI.Ml hJ (hu y z t))
theorem KO{x:α->β->aG}{v:α->β->Value}(hI:Inv T w0 w m)(h:Calls P f args w λe w'=>∃y z,e=.returned (v y z)∧Inv [] w w' [x y z])(k:∀y z w',Inv T w0 w' (x y z::m)->Q (.returned (v y z)) w'):Calls P f args w Q:=h.mono λe w' hh=>by obtain⟨y,z,rfl,hJ⟩:=hh;exact k y z w' (hI.seq hJ)
theorem KP{x:aG}{r':α->aG}{v:α->Value}{m:List aG}{y:aG}(hI:Inv T w0 w (two r y::m))(h:Calls P f args w λe w'=>∃z,e=.returned (v z)∧Inv (two r y).own w w' [two (r' z) x])(k:∀z w',Inv T w0 w' (r' z::m)->Q (.returned (v z)) w'):Calls P f args w Q:=h.mono λe w' hh=>by obtain⟨z,rfl,hJ⟩:=hh;exact k z w' ((hI.on hJ aR.here).dz.sub (.cons_cons _ (.cons _ (.refl _))))
theorem ZT{l:List Oper}{id:Nat}{Q:Exit->Act->World->Prop}{a:Act}(S:List Nat)(n:Nat){L:List Nat}(hI:Inv T w0 w m)(h:∀wd,Inv T w0 wd m->jW P l.toArray S [] [] (λ_=>True) Q L a wd)(hL:L=List.range n:=by simp only[List.range,List.range.loop];rfl)(hm:P.follows .mixedOrders=true:=by exact eO)(hB:YF l.toArray S [] [] L=true:=by kernel_rfl):(Code.region id l.toArray true).wp P Q a w:=ZR S [] [] L (λ_=>True) hI h hm hB
end
theorem YV{p:Prop}(h:p:=by first|with_reducible exact acG hI|with_reducible exact ahB hI|with_reducible exact Mt hI|with_reducible exact acH hI|with_reducible exact TR hI|with_reducible exact O5 hI|with_reducible exact YU hI|with_reducible exact QM hI|with_reducible exact TS hI|with_reducible exact TT hI|with_reducible exact TU hI|with_reducible exact QO hI|with_reducible exact QP hI|with_reducible exact QQ hI|with_reducible exact Ck hI|with_reducible exact O6 hI|with_reducible exact vW hI|with_reducible exact Cm hI|with_reducible exact Jh hI|with_reducible exact TV hI|with_reducible exact QR hI|with_reducible exact YW hI|with_reducible exact TW hI):p:=h
theorem YL{p q:Prop}(k:q)(h:q->p:=by first|with_reducible exact kon|with_reducible exact TY hI (hV:=by with_unfolding_all exact hV) |with_reducible exact TZ hI (hV:=by with_unfolding_all exact hV) |with_reducible exact T9 hI (hb:=hb) |with_reducible exact au YV|with_reducible exact ahy|with_reducible exact keq|with_reducible exact kne|with_reducible exact ahz|with_reducible exact aft|with_reducible exact ahA|with_reducible exact ahC|with_reducible exact ahD|with_reducible exact ahE|with_reducible exact ahF|with_reducible exact ahG):p:=h k
theorem YS{p q:Prop}(k:q)(h:q->p:=by first|with_reducible exact Mq hI|with_reducible exact ahs hI|with_reducible exact aht hI|with_reducible exact YY hI|with_reducible exact acL hI|with_reducible exact acM hI|with_reducible exact YZ hI|with_reducible exact Y0 hI|with_reducible exact Y8 hI|with_reducible exact T_ hI|with_reducible exact Ua hI|with_reducible exact Ub hI|with_reducible exact Y9 hI|with_reducible exact Y_ hI|with_reducible exact Uc hI|with_reducible exact acN hI|with_reducible exact Ud hI):p:=h k
theorem YT{p q:Prop}(k:q)(h:q->p:=by first|with_reducible exact ahu hI|with_reducible exact ahv hI|with_reducible exact ahw hI|with_reducible exact ahx hI):p:=h k
theorem YX{p q:Prop}(k:q)(h:q->p:=by first|with_reducible exact afs hI|with_reducible exact Cb hI):p:=h k
theorem ZQ{p q:Prop}(k:q)(h:q->p:=by first|exact λk=>ZA k|exact λk=>ZB k|exact λk=>ZC k):p:=h k
theorem ZP{p q:Prop}(k:q)(h:q->p:=by intro k;(first|refine ji ?_ |refine jN (hI.sub SB) ?_ |refine jN trivial ?_ |refine h_ ?_);first|with_reducible exact fC k|exact k):p:=h k
theorem ZS{p q:Prop}(k:q)(h:q->p:=by intro k;replace k:=HD k;(first|with_reducible refine YG RF RF RF RF ?_ |with_reducible refine Jf RF RF trivial ?_ |with_reducible refine Jf RF RF (hI.sub SB) ?_ |refine jB RF RF RF RF (hI.sub SB) (by intro w (hI:Inv _ _ w _);first|exact YV|with_reducible exact ahK|with_reducible exact ahL|with_reducible exact Za|with_reducible exact afy|with_reducible exact ahM|with_reducible exact ahN| (unfold fP;go_simp;with_reducible rfl)) ?_);(simp only[QN]);first|with_reducible exact fC k.out|exact k.out):p:=h k
theorem W1{p:Prop}(h:p:=by
  obtain⟨ub,kV⟩:=EQ (pM C i);obtain⟨W,hW⟩:=EH (oD C z);rw[hW.out];have hW2:W=if ub=true then(rM C i (fG i (rs C i) (gi z 0) (gi z 2) (gi z 3) (gi z 4) (sub z 5 3)).1,(fG i (rs C i) (gi z 0) (gi z 2) (gi z 3) (gi z 4) (sub z 5 3)).2)else(C,4):=by
   rw[<-hW.out,oD,if_neg OM];dsimp only;rw[if_pos OM,show(gi z 1).toNat=i by omega,kV]
  have hub:=HD kV;clear hW;cases ub
  ·rw[if_neg SI]at hW2
   replace hW2:=HD hW2;clear hg kV;go_enter func19,ntmps19;go_wp2_with(first|refine YL ?_|refine YX ?_;intro bx w hI|go_at_call 38;refine KR (i_ _ _ i hi) ?_|go_at_call 33;refine KR (yF hi hI aM _ hub) ?_);go_ret;rw[hW2.out];exact⟨Y,rfl,hI.tl⟩
  ·obtain⟨g1,g2,g3,g4⟩:=hg kV
   have hu:C.up i=true:=by rw[pM,Bool.and_eq_true]at kV;exact kV.1
   have hvw:=HD g1;have hrl:=g2;have hok:=HD g3;have hbk:=HD g4;rw[if_pos rfl]at hW2;obtain⟨⟨S',e'⟩,hc0⟩:=EQ (fG i (rs C i) (gi z 0) (gi z 2) (gi z 3) (gi z 4) (sub z 5 3));rw[hc0]at hW2;have hcl:=HD hc0;replace hW2:=HD hW2;have hcm:(a_ X Y C)[6+i]? =some (.pointer (some ⟨(Y.m i).b,0,none⟩)):=by rw[<-qi (Y:=Y) hu];exact rO _ _ _ _ hi
   clear hg kV g1 g3 g4 hc0;go_enter func19,ntmps19;go_upto_region 12 with(first|refine YL ?_|refine YX ?_;intro bx w hI|go_at_call 38;refine KR (i_ _ _ i hi) ?_|go_at_call 33;refine KR (yF hi hI aM _ hub) ?_)
   (obtain⟨bz,hbx⟩:=EZ bx;subst hbx)
   (refine ZR [11,13,14] [0,1,2,3,4,5,6,12] [11] [0,1,2,3,4,5,6,7,8,9,10,12,11,13,14] (λw=>Inv (bg X Y C).own w0 w [ib bz 50 z,bg X Y C]) hI ?_;intro wd hI)
   (repeat(first| (refine ZA ?_;go_wp2_with(go_at_call 39;refine KG hI (QT _ X _ _ i hi hu (hI.at_ aM) z hz hvw hrl hok hbk _ _ hcl) ?_;intro Y2 w1 hI);refine ji ?_) | (refine ZB ?_;go_wp2_with(fail);(refine jN (hI.sub SB) ?_)) | (refine ZC ?_;go_wp2_with(refine YL ?_);refine h_ ?_) | ((refine jB RF RF RF RF (hI.sub SB) (by intro w (hI:Inv _ _ w _);first| (with_reducible exact uZ (congrArg (Value.int .i64) h1) (Mt hI)) |with_reducible exact acG hI| (with_reducible exact Cn (cb:=X.cb) RF RF hi) | (with_reducible exact dV hI RF aM aO.out hcm) | (unfold fP;go_simp;with_reducible rfl)) ?_);(simp only[QN]))));refine fC ?_
   go_wp2_with(fail);go_ret;rw[hW2.out];exact⟨Y2,rfl,hI.tl⟩
  ):p:=h
theorem W2{p:Prop}(h:p:=by
  go_enter func44,ntmps44;go_upto_region 2 with(refine YL ?_)
  go_loopg [8,9,10,19] ws.length (λkk s8 s9 s10 s19 wr=>∃(j:Nat),kk=ws.length-j∧j<=ws.length∧s19=.int .i64 j∧Inv (eF d mr wb ⟨S,ws,ar,lf,dn⟩).own w0 wr [blk d 137 [.map (some mr),.slice a ws.length c,.bool ar,.int .i64 lf,.bool dn],Ay mr (Ue ws mask iQ q S j),bf 171 65 (.slice a ws.length c) ws.length (Co ws)])
  case atStart=>exact⟨0,by omega,by omega,rfl,hI⟩
  case round=>
   clear hI;obtain⟨j,rfl,hj,rfl,hI⟩:=hrel;by_cases hlj:j<ws.length
   ·obtain⟨p,hp⟩:∃p,ws[j]? =some p:=⟨ws[j],List.getElem?_eq_getElem hlj⟩
    obtain⟨MC,ME⟩:=G9 hw64 hp;have h64:=hw64 p (List.mem_of_getElem? hp);obtain⟨R,hR⟩:∃R,Hid (R=Ue ws mask iQ q S j):=⟨_,HD rfl⟩;have Zb:∀k,(R k).length=64:=by rw[hR.out];exact MG hw64 oF _ _ _ j
    have hnx:=HD (show Ue ws mask iQ q S (j+1)=(if(j:Int)=iQ then tX R p.1 (p.2.take q++(R p.1).drop q)else if bt mask (j%32)then tX R p.1 p.2 else R) by rw[Ue];simp only[hp];rw[<-hR.out]);rw[<-hR.out]at hI;obtain⟨g,rfl⟩:∃g,a=some ⟨g,0,none⟩:=gu hI aX OM;clear hp oF;by_cases ht:(j:Int)=iQ
    ·rw[if_pos ht]at hnx
     have hd:((j:Int)==iQ)=true:=by simpa using ht
     clear ht;have ahO:=HD (MH (Zb p.1) h64 afz);have MI:(p.2.take q++(R p.1).drop q).length=64:=by simp[h64,Zb];omega
     have hR1:=Zb p.1;go_upto_region 5 with(first|with_reducible refine fU hI RF aX (bG.out (t:=171)) MC ME ?_|(with_reducible refine QU hI ?_;intro bx w hI)|(with_reducible refine Fp hI (k:=?_);intro w hI))
     (refine ZR [7,8] [0,1,2,3,4,5,6] [7] [0,1,2,3,4,5,6,7,8] (λw=>Inv (eF d mr wb ⟨S,ws,ar,lf,dn⟩).own w0 w [blk bx 171 (qW p.1 p.2),blk d 137 [.map (some mr),.slice (some ⟨g,0,none⟩) ws.length c,.bool ar,.int .i64 lf,.bool dn],Ay mr R]) hI ?_;intro wd hI)
     (repeat(first| (refine ZA ?_;go_wp2_with((with_reducible refine Fq hI (k:=?_);intro w hI));refine ji ?_) | (refine ZB ?_;go_wp2_with((with_reducible refine Uf hI ?_;intro bx w hI));(refine jN (hI.sub SB) ?_)) | ((refine jB RF RF RF RF (hI.sub SB) (by intro w (hI:Inv _ _ w _);first|with_reducible exact afA hI|with_reducible exact acH hI| (unfold fP;go_simp;with_reducible rfl)) ?_);(simp only[QN]))));refine fC ?_
     go_upto_region 6 with(fail)
     refine ZT [5] 6 hI ?_;intro wd hI
     (repeat(refine ZQ ?_;go_wp2_with((with_reducible refine qX (xs:=(p.2.take q).map bv) (cs:=(R p.1).map bv) (ys:=(p.2.take q).map bv) hI (tK.out (t:=63)) RF RF (acO (hI.sat _ aM) h64 afz) (by rw[List.length_map,List.length_take,h64];have:=hqv.out;omega) jy (by exact(List.take_of_length_le (by rw[List.length_map,List.length_take,h64];have:=hqv.out;omega)).symm) (by rw[List.length_map,Zb];have:=hqv.out;omega) (qY _) ?_;intro w hI;rw[ahO.out]at hI));refine ZP ?_))
     go_wp2_with(first|go_at_call 88;refine KE (Zc d mr _ _ MI hI) ?_;intro w1 hI|refine YL ?_|with_reducible refine Zd hI (k:=?_));go_roundg (ws.length- (j+1))
     case measure=>omega
     case rel=>exact⟨j+1,by omega,by omega,by go_num,by rw[hnx.out];exact hI.sub SB⟩
    ·rw[if_neg ht]at hnx
     have hd:((j:Int)==iQ)=false:=by simpa using ht
     clear ht;have hbt:=MJ mask j;cases hb:bt mask (j%32)
     ·rw[hb]at hbt hnx
      clear hb;rw[if_neg SI]at hnx;go_wp2_with(first|with_reducible refine fU hI RF aX (bG.out (t:=171)) MC ME ?_|(with_reducible refine QU hI ?_;intro bx w hI)|(with_reducible refine Fp hI (k:=?_);intro w hI));go_roundg (ws.length- (j+1))
      case measure=>omega
      case rel=>exact⟨j+1,by omega,by omega,by go_num,by rw[hnx.out];exact hI.sub SB⟩
     ·rw[hb]at hbt hnx
      clear hb;rw[if_pos rfl]at hnx;go_wp2_with(first|with_reducible refine fU hI RF aX (bG.out (t:=171)) MC ME ?_|go_at_call 88;refine KE (Ug d mr _ _ h64 hI) ?_;intro w1 hI|refine YL ?_|(with_reducible refine QU hI ?_;intro bx w hI)|with_reducible refine abZ hI (k:=?_)|(with_reducible refine Fp hI (k:=?_);intro w hI));go_roundg (ws.length- (j+1))
      case measure=>omega
      case rel=>exact⟨j+1,by omega,by omega,by go_num,by rw[hnx.out];exact hI.sub SB⟩
   ·obtain rfl:j=ws.length:=by omega
    go_wp2_with(refine YT ?_;intro w hI;(try simp only[QS]at hI));have h2:Inv _ w0 w (bf 171 65 (.slice none 0 0) 0 (Co [])::_):=hI.Av 171 65;exact⟨rfl,_,gD KF _ _,none,rfl,iX (a:=none) (c:=0) (n:=0) (ws:=[]) rfl rfl (O7 h2)⟩
  ):p:=h
theorem W3{p:Prop}(h:p:=by
  rw[hz9.out]at hI;go_upto_region 4 with(first|refine YS ?_;intro w hI|refine YX ?_;intro bx w hI|refine YL ?_)
  (obtain⟨bv,hbx⟩:=EZ bx;subst hbx)
  go_upto_region 5 with(fail)
  go_loopg [6,34] 5 (λkk s6 Yu wr=>∃(j:Nat) (Y1:RY) (B1:Nat->List (List UInt8)),kk=5-j∧j<=5∧Yu=.int .i64 (j:Int)∧Hid (lL P0 G0 S j={S with B:=B1})∧Inv (ah X Y S).own w0 wr [ib bv 30 S.view,ib bm 158 M.mP,ah X Y1 {S with B:=B1}])
  case atStart=>exact⟨0,Y,S.B,rfl,by omega,rfl,HD rfl,hI⟩
  case round=>
   clear hI;obtain⟨j,Y1,B1,rfl,hj,rfl,hB1,hI⟩:=hrel;by_cases MK:j<5
   ·have hs:=HD (xD P0 G0 S j)
    by_cases O8:j=X.f
    ·have hq:((j:Int) != (X.f:Int))=false:=by simp[O8]
     have hs2:Hid (lL P0 G0 S (j+1)={S with B:=B1}):=HD (by rw[hs.out,if_neg (by rw[hP0.out];simp[O8]),hB1.out]);clear hs hB1 O8;go_wp2_with(refine YL ?_);go_roundg (5- (j+1))
     case measure=>omega
     case rel=>exact⟨j+1,Y1,B1,rfl,by omega,by go_num,hs2,hI⟩
    ·have hq:((j:Int) != (X.f:Int))=true:=by simp;omega
     obtain⟨mj,Uh⟩:=EQ (aI S.view (j:Int));have hmj:=HD Uh;cases mj
     ·have hs2:Hid (lL P0 G0 S (j+1)={S with B:=B1}):=HD (by rw[hs.out,if_neg (by rw[hP0.out];simp[Uh]),hB1.out])
      clear hs hB1 Uh;go_wp2_with(first|refine YL ?_|go_at_call 14;refine KD hI (bP _ _ j hvl _ hmj) ?_;intro w1 hI);go_roundg (5- (j+1))
      case measure=>omega
      case rel=>exact⟨j+1,Y1,B1,rfl,by omega,by go_num,hs2,hI⟩
     ·have hs2:Hid (lL P0 G0 S (j+1)=dM X.f {S with B:=B1} j M):=HD (by rw[hs.out,if_pos (by rw[hP0.out];simp[Uh,O8]),hB1.out,hG0.out])
      clear hs hB1 Uh;go_wp2_with(first|refine YL ?_|go_at_call 14;refine KD hI (bP _ _ j hvl _ hmj) ?_;intro w1 hI|go_at_call 122;refine KJ hI (sF _ X Y1 {S with B:=B1} hX M hM _ rfl j OM OM (hI.at_ aX)) ?_;intro Y2 B2 w1 hB2 hI);go_roundg (5- (j+1))
      case measure=>omega
      case rel=>exact⟨j+1,Y2,B2,rfl,by omega,by go_num,HD (by rw[hs2.out,hB2.out]),hI⟩
   ·obtain rfl:j=5:=by omega
    cases mb
    ·have hF2:Hid (R={S with B:=B1}):=HD (by rw[<-hR.out,hmb.out,if_neg SI,hB1.out])
     clear hB1;go_upto_region 10 with(fail)
     refine ZT [5] 6 hI ?_;intro wd hI
     (repeat(refine ZQ ?_;go_wp2_with(first|go_at_call 14;refine KD hI (bP _ _ X.f hvl _ hmb) ?_;intro w1 hI|refine YL ?_);refine ZP ?_))
     go_wp2_with(fail);rw[hF2.out];exact⟨rfl,_,gD KF _ _,Y1,rfl,hI.sub (.cons _ (.cons _ (.refl _)))⟩
    ·have hF2:Hid (R=G {S with B:=B1}):=HD (by rw[<-hR.out,hmb.out,if_pos rfl,hB1.out])
     have hT1:=hT Y1 B1;clear hB1 hT;go_upto_region 10 with(fail)
     refine ZT [5] 6 hI ?_;intro wd hI
     (repeat(refine ZQ ?_;go_wp2_with(first|go_at_call 14;refine KD hI (bP _ _ X.f hvl _ hmb) ?_;intro w1 hI|refine YL ?_);refine ZP ?_))
     go_upto_region 11 with(fail)
     refine ZT [7] 8 hI ?_;intro wd hI
     (repeat(refine ZQ ?_;go_wp2_with(first|go_at_call 122;refine KG hI (Fs _ X _ _ hX _ (gZ.len hM) _ hT1 (hI.at_ aX)) ?_;intro Y3 w1 hI|refine YL ?_);refine ZP ?_))
     go_wp2_with(fail);rw[hF2.out];exact⟨rfl,_,gD KF _ _,Y3,rfl,hI.sub (.cons _ (.cons _ (.refl _)))⟩
  ):p:=h
theorem W4{p:Prop}(h:p:=by
  rcases h1:fT c0 with _| ⟨x1,c1⟩
  ·replace h1:=HD h1
   have hl1:=aa 0;have hl2:=aa 0;have hl3:=aa 0;have hl4:=aa 0;go_enter func114,ntmps114;go_upto_region 2 with(first|go_at_call 136;refine KC iR hI (cK _ pr ab _ _ _ _ (hI.sat _ aM) (hI.nd aM) h0.out OM p8.out) ?_;intro w1 hI|refine YS ?_;intro w hI|refine YX ?_;intro bx w hI|refine YL ?_)
   rw[hbw.out]at hI;go_upto_region 3 with(refine YL ?_)
   rw[jU.out];go_wp2_with(go_at_call 138;refine KN hI (xE _ pr ab _ (by exact h1.out) (hI.sat _ aX) (hI.nd aX)) ?_;intro Cq w1 hI);exact⟨rfl,.inr ⟨by simp only[mY,h0.out,h1.out,Option.bind_some,Option.bind_none],rfl,_,hI.sub SB⟩⟩
  ·replace h1:=HD h1
   rcases h2:bF dD c1 with _| ⟨x2,c2⟩
   ·replace h2:=HD h2
    have hl1:=aa 0;have hl2:=aa 0;have hl3:=aa 0;have hl4:=aa 0;go_enter func114,ntmps114;go_upto_region 2 with(first|go_at_call 136;refine KC iR hI (cK _ pr ab _ _ _ _ (hI.sat _ aM) (hI.nd aM) h0.out OM p8.out) ?_;intro w1 hI|refine YS ?_;intro w hI|refine YX ?_;intro bx w hI|refine YL ?_)
    rw[hbw.out]at hI;go_upto_region 3 with(refine YL ?_)
    rw[jU.out];go_wp2_with(first|go_at_call 139;refine KN hI (qZ.no (iq _ pr ab _ (hI.sat _ aX) (hI.nd aX)) (lM (by exact h2.out))) ?_;intro Cq w1 hI|go_at_call 138;refine KC pg hI (gK _ pr ab _ (by exact h1.out) (hI.sat _ aX) (hI.nd aX)) ?_;intro w1 hI|refine YS ?_;intro w hI);exact⟨rfl,.inr ⟨by simp only[mY,h0.out,h1.out,h2.out,Option.bind_some,Option.bind_none],rfl,_,hI.sub SB⟩⟩
   ·have hl2:(nn x2).length=2:=by rw[cB];exact dN h2
    replace h2:=HD h2;have hl1:=aa 0;have hl3:=aa 0;have hl4:=aa 0;go_enter func114,ntmps114;go_upto_region 2 with(first|go_at_call 136;refine KC iR hI (cK _ pr ab _ _ _ _ (hI.sat _ aM) (hI.nd aM) h0.out OM p8.out) ?_;intro w1 hI|refine YS ?_;intro w hI|refine YX ?_;intro bx w hI|refine YL ?_)
    rw[hbw.out]at hI;go_upto_region 3 with(refine YL ?_)
    rw[jU.out];go_wp2_with(first|go_at_call 138;refine KC pg hI (gK _ pr ab _ (by exact h1.out) (hI.sat _ aX) (hI.nd aX)) ?_;intro w1 hI|go_at_call 139;refine KI hI (qZ.yes (iq _ pr ab _ (hI.sat _ aX) (hI.nd aX)) (iF (by exact h2.out))) ?_;intro w1 hI|refine YL ?_|refine YS ?_;intro w hI);simp only[aa,fD,fE,fF,eX,ek,eY,eu,eB,bO,bE,dP,dh,dx,hl1,hl2,hl3,hl4]at hI;exact bodyPost_ret (aF hI rfl rfl aM (bG.out (t:=158)) (by simp only[fo,aa,hl1,hl2,hl3,hl4])) rfl (.inl ⟨_,_,_,(by simp only[mY,h0.out,h1.out,h2.out,Option.bind_some];rfl),(by simp only[fo,aa,hl1,hl2,hl3,hl4]),rfl,hI.sub SB⟩)
  ):p:=h
theorem W5{p:Prop}(h:p:=by go_wp2_with(go_at_call 176;refine KL hI (Cr _ pw _ _ hlB (hI.at_ aA)) ?_;intro ad cd zD w1 hI);go_ret;exact⟨ad,cd,by(try simp only[List.length_append,Nat.add_assoc]);rfl,Ji,hI.sub SB⟩):p:=h
theorem W6{p:Prop}(h:p:=by
  replace h1:=HD h1
  have hl1:=aa 0;have hl2:=aa 0;have hl3:=aa 0;have hl4:=aa 0;go_enter func114,ntmps114;go_upto_region 2 with(first|go_at_call 136;refine KC iR hI (cK _ pr ab _ _ _ _ (hI.sat _ aM) (hI.nd aM) h0.out OM p8.out) ?_;intro w1 hI|refine YS ?_;intro w hI|refine YX ?_;intro bx w hI|refine YL ?_)
  rw[hbw.out]at hI;go_upto_region 3 with(refine YL ?_)
  rw[jU.out];go_wp2_with(go_at_call 136;refine KN hI (j5 _ pr ab _ _ _ (hI.sat _ aX) (hI.nd aX) (by exact h1.out) OM) ?_;intro Cq w1 hI);exact⟨rfl,.inr ⟨by simp only[mY,h0.out,h1.out,Option.bind_some,Option.bind_none],rfl,_,hI.sub SB⟩⟩
  ):p:=h
theorem W7{p:Prop}(h:p:=by
  rw[<-hB.out];clear hZ dG hB;go_enter func215,ntmps215;go_upto_region 3 with(first|(with_reducible refine aL (z:=.agg #[.slice none 0 0]) (cs:=[.slice none 0 0]) hI l7 RF ?_;intro pw w hI;replace hI:=l8 hI)|refine YL ?_|refine YX ?_;intro bx w hI)
  rw[jU.out];go_upto_region 6 with(fail)
  (refine ZR [5,6,9] [0,7,8] [5,6] [0,1,2,3,4,7,8,5,6,9] (λw=>Inv [] w0 w [ib bx 158 Z]) hI ?_;intro wd hI)
  (repeat(first|refine ZS ?_|refine ZQ ?_;go_wp2_with(first|go_at_call 172;refine KG hI (G_ _ pw _ _ _ (by exact e1.out) (by exact n1) (by exact hl1) (hI.at_ aA)) ?_;intro zD w1 hI|(with_reducible refine Ci hI (k:=?_);intro b2 w hI;replace hI:=Inv.Ct hI)|go_at_call 171;refine KP hI (ko _ pw _ _ _ _ zs [] _ (by intro w h;rw[<-hrow.out];exact ja h) hzl hl0 (hI.at_ aA)) ?_;intro zD w1 hI;(try simp only[List.nil_append]at hI)|refine YL ?_);refine ZP ?_))
  exact W5
  ):p:=h
theorem W8{p:Prop}(h:p:=by
  replace h2:=HD h2
  have hl1:=aa 0;have hl2:=aa 0;have hl3:=aa 0;have hl4:=aa 0;go_enter func114,ntmps114;go_upto_region 2 with(first|go_at_call 136;refine KC iR hI (cK _ pr ab _ _ _ _ (hI.sat _ aM) (hI.nd aM) h0.out OM p8.out) ?_;intro w1 hI|refine YS ?_;intro w hI|refine YX ?_;intro bx w hI|refine YL ?_)
  rw[hbw.out]at hI;go_upto_region 3 with(refine YL ?_)
  rw[jU.out];go_wp2_with(first|go_at_call 137;refine KN hI (qZ.no (u6 _ pr ab _ (hI.sat _ aX) (hI.nd aX)) (Cu (by exact h2.out))) ?_;intro Cq w1 hI|go_at_call 136;refine KC pg hI (dK _ pr ab _ _ _ (hI.sat _ aX) (hI.nd aX) (by exact h1.out) OM) ?_;intro w1 hI|refine YS ?_;intro w hI);exact⟨rfl,.inr ⟨by simp only[mY,h0.out,h1.out,h2.out,Option.bind_some,Option.bind_none],rfl,_,hI.sub SB⟩⟩
  ):p:=h
theorem W9{p:Prop}(h:p:=by
  (repeat(first|refine ZS ?_|refine ZQ ?_;go_wp2_with(first|refine YS ?_;intro w hI|go_at_call 90;refine KD hI (C.jb _ _ (by(simp only[List.length_set,aa,ay,aY,aB,List.length_append,List.length_cons,List.length_nil]<;>omega))) ?_;intro w1 hI|refine YL ?_);refine ZP ?_))
  simp only[aa,fD,fE,fF,eX,ek,eY,eu,eB,bO,bE,dP,dh,dx,hl1,hl2,hl3,hl4]at hI|-;go_wp2_with(fail);exact bodyPost_ret (aF hI rfl rfl aM (bG.out (t:=158)) (by simp only[fo,aa,hl1,hl2,hl3,hl4])) rfl (.inl ⟨_,_,_,(by simp only[mY,h0.out,h1.out,h2.out,Option.bind_some];rfl),(by simp only[fo,aa,hl1,hl2,hl3,hl4]),rfl,hI.sub SB⟩)
  ):p:=h
theorem W10{p:Prop}(h:p:=by
  replace h1:=HD h1
  have hl1:=aa 0;have hl2:=aa 0;have hl3:=aa 0;have hl4:=aa 0;go_enter func114,ntmps114;go_upto_region 2 with(first|go_at_call 136;refine KC iR hI (cK _ pr ab _ _ _ _ (hI.sat _ aM) (hI.nd aM) h0.out OM p8.out) ?_;intro w1 hI|refine YS ?_;intro w hI|refine YX ?_;intro bx w hI|refine YL ?_)
  rw[hbw.out]at hI;go_upto_region 3 with(refine YL ?_)
  rw[jU.out];go_wp2_with(go_at_call 138;refine KN hI (xE _ pr ab _ (by exact h1.out) (hI.sat _ aX) (hI.nd aX)) ?_;intro Cq w1 hI);exact⟨rfl,.inr ⟨by simp only[mY,h0.out,h1.out,Option.bind_some,Option.bind_none],rfl,_,hI.sub SB⟩⟩
  ):p:=h
theorem W11{p:Prop}(h:p:=by
  (repeat(first|refine ZS ?_|refine ZQ ?_;go_wp2_with(first|go_at_call 173;refine KG hI (xF _ pw _ _ _ (by exact e1.out) (by exact n1) (by exact hl1) (hI.at_ aA)) ?_;intro zD w1 hI|(with_reducible refine Ci hI (k:=?_);intro b2 w hI;replace hI:=Inv.Ct hI)|go_at_call 171;refine KP hI (ko _ pw _ _ _ _ zs [] _ (by intro w h;rw[<-hrow.out];exact ja h) hzl hl0 (hI.at_ aA)) ?_;intro zD w1 hI;(try simp only[List.nil_append]at hI)|refine YL ?_);refine ZP ?_))
  exact W5
  ):p:=h
theorem W12{p:Prop}(h:p:=by go_wp2_with(first|(with_reducible refine bL hI RF MM (by first|with_reducible exact gM|with_reducible exact wY) SI ?_);simp only[List.drop_succ_cons,List.drop_zero,List.take_succ_cons,List.take_zero]|(with_reducible refine aN hI RF RF jy (by with_reducible exact wY.size) RF SI (by simp[Value.oneCell']) ?_);intro w hI;simp only[splice,List.drop_succ_cons,List.drop_zero,List.take_succ_cons,List.take_zero,List.length_cons,List.length_nil,Nat.zero_add,Nat.reduceAdd,List.nil_append,List.cons_append,List.append_nil,List.drop_nil]at hI|(with_reducible refine bN hI RF ?_);intro bx w hI|(with_reducible refine aL hI (by first|with_reducible exact Mx|with_reducible exact MB) RF ?_);intro bx w hI|go_at_call 160;refine KD hI (u7 _ _ _ _ _ _ _ _ _ _ _ _) ?_;intro w1 hI);exact bodyPost_ret (oW hI rfl rfl aA (by(with_reducible exact wY)) (by rfl)) rfl ⟨rfl,hI.below⟩):p:=h
theorem Ui{p:Prop}(h:p:=by exact bodyPost_ret (aF hI rfl rfl aA wX (aa 174)) rfl ⟨rfl,hI.below⟩):p:=h
theorem W14{p:Prop}(h:p:=by
  go_upto_region 4 with(fail)
  refine ZT [12,13] 14 hI ?_;intro wd hI
  (repeat(refine ZQ ?_;go_wp2_with(first|refine YS ?_;intro w hI|refine YL ?_);refine ZP ?_))
  go_wp2_with(go_at_call 79;refine KJ hI (yG _ X _ _ hX (hI.at_ aX) _ hvw RF) ?_;intro Y2 S2 w1 hS2 hI);rw[hF.out];have e2:=hS2.out;rw[show bits BinOp.or IntKind.i64 (gi S.told i) (2^k)=Uj (gi S.told i) k from rfl]at e2;rw[e2];exact⟨rfl,_,gD KF _ _,Y2,rfl,hI.sub (.cons _ (.cons _ (.refl _)))⟩
  ):p:=h
theorem W15{p:Prop}(h:p:=by
  replace h2:=HD h2
  have hl1:=aa 0;have hl2:=aa 0;have hl3:=aa 0;have hl4:=aa 0;go_enter func101,ntmps101;go_upto_region 2 with(first|go_at_call 136;refine KC iR hI (cK _ pr ab _ _ _ _ (hI.sat _ aM) (hI.nd aM) h0.out OM p8.out) ?_;intro w1 hI|refine YS ?_;intro w hI|refine YX ?_;intro bx w hI|refine YL ?_)
  rw[hbw.out]at hI;go_upto_region 3 with(refine YL ?_)
  rw[jU.out];go_wp2_with(first|go_at_call 139;refine KN hI (qZ.no (iq _ pr ab _ (hI.sat _ aX) (hI.nd aX)) (lM (by exact h2.out))) ?_;intro Cq w1 hI|go_at_call 138;refine KC pg hI (gK _ pr ab _ (by exact h1.out) (hI.sat _ aX) (hI.nd aX)) ?_;intro w1 hI|refine YS ?_;intro w hI);exact⟨rfl,.inr ⟨by simp only[qM,h0.out,h1.out,h2.out,Option.bind_some,Option.bind_none],rfl,_,hI.sub SB⟩⟩
  ):p:=h
theorem W16{p:Prop}(h:p:=by
  replace h2:=HD h2
  have hl1:=aa 0;have hl2:=aa 0;have hl3:=aa 0;have hl4:=aa 0;go_enter func114,ntmps114;go_upto_region 2 with(first|go_at_call 136;refine KC iR hI (cK _ pr ab _ _ _ _ (hI.sat _ aM) (hI.nd aM) h0.out OM p8.out) ?_;intro w1 hI|refine YS ?_;intro w hI|refine YX ?_;intro bx w hI|refine YL ?_)
  rw[hbw.out]at hI;go_upto_region 3 with(refine YL ?_)
  rw[jU.out];go_wp2_with(first|go_at_call 139;refine KN hI (qZ.no (iq _ pr ab _ (hI.sat _ aX) (hI.nd aX)) (lM (by exact h2.out))) ?_;intro Cq w1 hI|go_at_call 138;refine KC pg hI (gK _ pr ab _ (by exact h1.out) (hI.sat _ aX) (hI.nd aX)) ?_;intro w1 hI|refine YS ?_;intro w hI);exact⟨rfl,.inr ⟨by simp only[mY,h0.out,h1.out,h2.out,Option.bind_some,Option.bind_none],rfl,_,hI.sub SB⟩⟩
  ):p:=h
theorem W17{p:Prop}(h:p:=by
  go_enter func68,ntmps68;go_upto_region 1 with(refine YX ?_;intro bx w hI)
  refine ZT [8,9] 10 hI ?_;intro wd hI
  (repeat(refine ZQ ?_;go_wp2_with(first|go_at_call 14;refine KD hI (bP _ _ X.f hvl _ hmb) ?_;intro w1 hI|refine YL ?_);refine ZP ?_))
  go_wp2_with(first|refine YL ?_|refine YS ?_;intro w hI);exact bodyPost_ret (iY hI rfl rfl aA (bG.out (t:=41)) hn) rfl ⟨rfl,hI.sub SB⟩
  ):p:=h
theorem W18{p:Prop}(h:p:=by go_wp2_with(first|refine YS ?_;intro w hI|refine YL ?_);exact bodyPost_ret (iY hI rfl rfl aM (bG.out (t:=41)) hn) rfl ⟨rfl,hI.sub SB⟩):p:=h
theorem W19{p:Prop}(h:p:=by
  go_upto_region 3 with(first|(with_reducible refine aL (z:=.agg #[.slice none 0 0]) (cs:=[.slice none 0 0]) hI l7 RF ?_;intro pw w hI;replace hI:=l8 hI)|refine YL ?_|refine YX ?_;intro bx w hI)
  rw[jU.out];go_wp2_with(first|go_at_call 176;refine KL hI (Cr _ pw _ _ hlB (hI.at_ aA)) ?_;intro ad cd zD w1 hI|(with_reducible refine Ci hI (k:=?_);intro b2 w hI;replace hI:=Inv.Ct hI)|go_at_call 171;refine KP hI (ko _ pw _ _ _ _ zs [] _ (by intro w h;rw[<-hrow.out];exact ja h) hzl hl0 (hI.at_ aA)) ?_;intro zD w1 hI;(try simp only[List.nil_append]at hI)|refine YL ?_);go_ret;exact⟨ad,cd,by(try simp only[List.length_append,Nat.add_assoc]);rfl,Ji,hI.sub SB⟩
  ):p:=h
theorem W20{p:Prop}(h:p:=by have hI:=Inv.start w0;unfold kW;go_enter func84,ntmps84;go_wp2_with(first|refine YL ?_|refine YS ?_;intro w hI|refine YX ?_;intro bx w hI|go_at_call 34;refine KR (dR _ _) ?_|go_at_call 14;refine KD hI (gU _ v _ hv) ?_;intro w1 hI);exact bodyPost_ret (aF hI rfl rfl aA mX DC) rfl ⟨rfl,hI.below⟩):p:=h
theorem W21{p:Prop}(h:p:=by
  replace h1:=HD h1
  have hl1:=aa 0;have hl2:=aa 0;have hl3:=aa 0;have hl4:=aa 0;go_enter func101,ntmps101;go_upto_region 2 with(first|go_at_call 136;refine KC iR hI (cK _ pr ab _ _ _ _ (hI.sat _ aM) (hI.nd aM) h0.out OM p8.out) ?_;intro w1 hI|refine YS ?_;intro w hI|refine YX ?_;intro bx w hI|refine YL ?_)
  rw[hbw.out]at hI;go_upto_region 3 with(refine YL ?_)
  rw[jU.out];go_wp2_with(go_at_call 136;refine KN hI (j5 _ pr ab _ _ _ (hI.sat _ aX) (hI.nd aX) (by exact h1.out) OM) ?_;intro Cq w1 hI);exact⟨rfl,.inr ⟨by simp only[qM,h0.out,h1.out,Option.bind_some,Option.bind_none],rfl,_,hI.sub SB⟩⟩
  ):p:=h
theorem W22{p:Prop}(h:p:=by obtain⟨W,hW⟩:=EH (Cv C z i);rw[hW.out];go_enter func19,ntmps19;go_wp2_with(first|refine YL ?_|refine YX ?_;intro bx w hI|go_at_call 38;refine KR (i_ _ _ i hi) ?_|go_at_call 40;refine KG hI (afB _ X _ _ z hz (hI.at_ aM) i hi h1 hN.out hgood.out) ?_;intro Y2 w1 hI);go_ret;rw[<-hW.out];exact⟨Y2,rfl,hI.tl⟩):p:=h
theorem W23{p:Prop}(h:p:=by
  rw[hF.out];go_enter func66,ntmps66;go_upto_region 12 with(first|refine YL ?_|refine YX ?_;intro bx w hI)
  (refine ZR [12,16,17,18,19,20] [1,2,5,6,7,8] [12,16] [0,1,2,3,4,5,6,7,8,9,10,11,12,13,14,15,16,17,18,19,20] (λw=>Inv (two (rb f b l vb ra rc S) Z).own w0 w [ib bx 143 z]) hI ?_;intro wd hI)
  (repeat(first|refine ZS ?_|refine ZQ ?_;go_wp2_with(first|refine YS ?_;intro w hI|refine YL ?_);refine ZP ?_))
  go_upto_region 13 with(fail)
  refine ZT [9,10,11] 12 hI ?_;intro wd hI
  (repeat(refine ZQ ?_;go_wp2_with(first|refine YS ?_;intro w hI|refine YL ?_);refine ZP ?_))
  go_wp2_with(fail)
  (try rw[hs]at hI)
  exact⟨rfl,_,gD KF _ _,rfl,hI.tl⟩
  ):p:=h
theorem W24{p:Prop}(h:p:=by
  replace h1:=HD h1
  have hl1:=aa 0;have hl2:=aa 0;have hl3:=aa 0;have hl4:=aa 0;go_enter func101,ntmps101;go_upto_region 2 with(first|go_at_call 136;refine KC iR hI (cK _ pr ab _ _ _ _ (hI.sat _ aM) (hI.nd aM) h0.out OM p8.out) ?_;intro w1 hI|refine YS ?_;intro w hI|refine YX ?_;intro bx w hI|refine YL ?_)
  rw[hbw.out]at hI;go_upto_region 3 with(refine YL ?_)
  rw[jU.out];go_wp2_with(go_at_call 138;refine KN hI (xE _ pr ab _ (by exact h1.out) (hI.sat _ aX) (hI.nd aX)) ?_;intro Cq w1 hI);exact⟨rfl,.inr ⟨by simp only[qM,h0.out,h1.out,Option.bind_some,Option.bind_none],rfl,_,hI.sub SB⟩⟩
  ):p:=h
theorem W25{p:Prop}(h:p:=by
  (repeat(first|refine ZS ?_|refine ZQ ?_;go_wp2_with(first|go_at_call 174;refine KG hI (Cw _ pw _ _ _ (by exact e2.out) (by exact n2) (by exact hl2) (hI.at_ aA)) ?_;intro zD w1 hI|(with_reducible refine Ci hI (k:=?_);intro b2 w hI;replace hI:=Inv.Ct hI)|go_at_call 171;refine KP hI (ko _ pw _ _ _ _ zs [] _ (by intro w h;rw[<-hrow.out];exact ja h) hzl hl0 (hI.at_ aA)) ?_;intro zD w1 hI;(try simp only[List.nil_append]at hI)|go_at_call 173;refine KG hI (xF _ pw _ _ _ (by exact e1.out) (by exact n1) (by exact hl1) (hI.at_ aA)) ?_;intro zD w1 hI|refine YL ?_);refine ZP ?_))
  exact W5
  ):p:=h
theorem W26{p:Prop}(h:p:=by
  go_enter func116,ntmps116;go_upto_region 2 with(first|refine YX ?_;intro bx w hI|refine YL ?_|go_at_call 121;refine KO hI (wZ _ X.f rP) ?_;intro g cw w1 hI)
  (refine ZR [0,1,2,3,4,5,13,14,15,18,19,20] [] [] [0,1,2,3,4,5,6,7,8,9,10,11,12,13,14,15,16,17,18,19,20] (λw=>Inv (ah X Y S).own w0 w [bf 3 1 (.slice (some ⟨g,0,none⟩) 2 cw) 2 ((dS X.f).map iN),ib bx 158 z,ah X Y S]) hI ?_;intro wd hI)
  (repeat(first|refine ZS ?_|refine ZQ ?_;go_wp2_with(refine YL ?_);refine ZP ?_))
  go_wp2_with(fail);rw[hF.out];exact⟨rfl,_,gD KF _ _,Y,rfl,hI.sub (.cons _ (.cons _ (.refl _)))⟩
  ):p:=h
theorem W27{p:Prop}(h:p:=by
  (repeat(first|refine ZS ?_|refine ZQ ?_;go_wp2_with(first|refine YT ?_;intro w hI;(try simp only[QS]at hI)|(with_reducible refine u_ hI RF (by rw[Ha,hpl]) (k:=?_);intro b2 w hI)|(with_reducible refine az (q:=1) hI RF RF (tK.out (t:=135)) (by intro r';exact aR.there (aR.there (aR.there (aR.there aR.here)))) (hI.rd aA) (by rw[Ha,hpl]) (Jj _ _) MX OM ?_;intro a' c' w hI)|with_reducible refine afC hI (k:=?_));refine ZP ?_))
  go_wp2_with(fail);go_ret;rw[<-Ze]at hI;exact⟨_,rfl,(iX (n:=ws.length+1) rfl SI (Zf hI)).dO⟩
  ):p:=h
theorem W28{p:Prop}(h:p:=by
  have:∀i,∃zs:List Int,i<len->(zs.length=k∧(∀j,-9223372036854775808<=gi zs j∧gi zs j<=9223372036854775807)∧∃b off,a=some ⟨b,off,none⟩∧mW w b (off+i*k) (zs.map (Value.int .i64))):=by
   intro i;by_cases hi:i<len
   ·obtain⟨ha,b,off,h1,h2⟩:=h.row i hi
    obtain⟨zs,hz,hl,hwf⟩:=rJ.ints ha;refine⟨zs,λ_=>⟨hl,afD hwf,b,off,h1,?_⟩⟩;rw[show zs.map (Value.int .i64)=zs.map iv from rfl,<-hz];simpa using h2
   ·exact⟨[],λh=>absurd h hi⟩
  exact⟨λi=>(this i).choose,⟨Nat.le_trans h.le h.reach,λi hi=>(this i).choose_spec hi⟩⟩
  ):p:=h
theorem W29{p:Prop}(h:p:=by
  obtain⟨⟨x1,c1⟩,h1,h⟩:=Option.bind_eq_some_iff.1 h
  obtain⟨⟨x2,c2⟩,h2,h⟩:=Option.bind_eq_some_iff.1 h;simp only[Option.some.injEq,Prod.mk.injEq]at h;obtain⟨⟨rfl,_⟩,_⟩:=h;exact fo (by rw[cB];exact mZ h2) (aa _) (aa _) (aa _) (aa _)
  ):p:=h
theorem W30{p:Prop}(h:p:=by have hI:=Inv.start w0;unfold kW;go_enter func84,ntmps84;go_wp2_with(first|refine YL ?_|refine YS ?_;intro w hI|refine YX ?_;intro bx w hI|go_at_call 34;refine KR (dR _ _) ?_);exact bodyPost_ret (aF hI rfl rfl aA mX DC) rfl ⟨rfl,hI.below⟩):p:=h
theorem W31{p:Prop}(h:p:=by
  go_upto_region 21 with(fail)
  (refine ZR [0,1,2,3,13,16,17] [14,15] [13] [0,1,2,3,4,5,6,7,8,9,10,11,12,14,15,13,16,17] (λw=>Inv (ah X Y S).own w0 w [ib b1 41 g,ib b2 41 (aj 174),ib b3 50 z,ah X Y S]) hI ?_;intro wd hI)
  (repeat(first|refine ZS ?_|refine ZQ ?_;go_wp2_with(first|refine YL ?_|go_at_call 107;refine KE (Jk hI mU hbk _ _ Uk) ?_;intro w1 hI);refine ZP ?_))
  go_wp2_with(first|refine YL ?_|refine YS ?_;intro w hI);exact bodyPost_ret (iY hI rfl rfl aM (bG.out (t:=41)) hgl) rfl ⟨rfl,hI.sub SB⟩
  ):p:=h
theorem W32{p:Prop}(h:p:=by exact bodyPost_ret (aF hI rfl rfl aM (bG.out (t:=143)) (by simp only[dL,aa,hl1,hl2,hl3,hl4])) rfl (.inl ⟨_,_,_,(by simp only[qM,h0.out,h1.out,Option.bind_some];rfl),(by simp only[dL,aa,hl1,hl2,hl3,hl4]),rfl,hI.sub SB⟩)):p:=h
theorem LZ{p:Prop}(h:p:=by exact⟨rfl,_,gD KF _ _,Y2,rfl,hI.tl⟩):p:=h
theorem W34{p:Prop}(h:p:=by
  (repeat(first|refine ZS ?_|refine ZQ ?_;go_wp2_with(first|go_at_call 175;refine KG hI (Jl _ pw _ _ _ (by exact e1.out) (by exact n1) (by exact hl1) (hI.at_ aA)) ?_;intro zD w1 hI|(with_reducible refine Ms hI (k:=?_);intro b2 w hI;replace hI:=Inv.Ct hI)|go_at_call 171;refine KP hI (ko _ pw _ _ _ _ zs [] _ (by intro w h;rw[<-hrow.out];exact ja h) hzl hl0 (hI.at_ aA)) ?_;intro zD w1 hI;(try simp only[List.nil_append]at hI)|refine YL ?_);refine ZP ?_))
  exact W5
  ):p:=h
theorem W35{p:Prop}(h:p:=by exact⟨rfl,.inr ⟨by rw[ve,hr.out];rfl,rfl,_,hI.sub SB⟩⟩):p:=h
theorem W36{p:Prop}(h:p:=by
  rw[<-hB.out];clear hZ dG hB;go_enter func215,ntmps215;go_upto_region 3 with(first|(with_reducible refine aL (z:=.agg #[.slice none 0 0]) (cs:=[.slice none 0 0]) hI l7 RF ?_;intro pw w hI;replace hI:=l8 hI)|refine YL ?_|refine YX ?_;intro bx w hI)
  rw[jU.out];go_upto_region 11 with(fail)
  (refine ZR [5,6,9] [0,7,8] [5,6] [0,1,2,3,4,7,8,5,6,9] (λw=>Inv [] w0 w [ib bx 158 Z]) hI ?_;intro wd hI)
  exact W11
  ):p:=h
theorem W37{p:Prop}(h:p:=by
  go_upto_region 21 with(fail)
  (refine ZR [0,1,2,3,13,16,17] [14,15] [13] [0,1,2,3,4,5,6,7,8,9,10,11,12,14,15,13,16,17] (λw=>Inv (ah X Y S).own w0 w [ib b1 41 g,ib b2 41 (aj 174),ib b3 50 z,ah X Y S]) hI ?_;intro wd hI)
  (repeat(first|refine ZS ?_|refine ZQ ?_;go_wp2_with(first|refine YL ?_|go_at_call 107;refine KE (Jk hI mU hbk _ _ Uk) ?_;intro w1 hI);refine ZP ?_))
  exact W18
  ):p:=h
theorem W38{p:Prop}(h:p:=by
  have hmn:=afE;go_enter func88,ntmps88;go_upto_region 3 with(first|refine YL ?_|(with_reducible refine O9 hI (k:=?_);intro bx w hI))
  refine ZT [6] 7 hI ?_;intro wd hI
  (repeat(refine ZQ ?_;go_wp2_with(first|(with_reducible refine ahP hI (k:=?_);intro w hI)|refine YL ?_|with_reducible refine Zd hI (k:=?_));refine ZP ?_))
  exact⟨rfl,_,gD KF _ _,rfl,hI.tl⟩
  ):p:=h
theorem W39{p:Prop}(h:p:=by exact⟨rfl,_,gD KF _ _,Y,rfl,hI.tl⟩):p:=h
theorem W40{p:Prop}(h:p:=by
  go_enter func120,ntmps120
  go_upto_region 1 with(refine YX ?_;intro bx w hI)
  refine ZT [7] 8 hI ?_;intro wd hI
  (repeat(refine ZQ ?_;go_wp2_with(refine YL ?_);refine ZP ?_))
  go_wp2_with(first|refine YL ?_|go_at_call 122;refine KJ hI (sF _ X Y S hX (.view S.view) hMv _ (Ul hvl) k hk5 Um (hI.at_ aM)) ?_;intro Y2 B2 w1 hB2 hI);rw[hB2.out];exact LZ
  ):p:=h
theorem W41{p:Prop}(h:p:=by
  go_enter func33,ntmps33
  go_wp2_with(first|refine YL ?_|with_reducible refine au (dV hI RF hm aO.out hcm) ?_|with_reducible refine au (dV hI RF hm aO.out hcd) ?_|go_at_call 38;refine KR (i_ _ _ i hi) ?_|go_at_call 61;refine KR (Fu _ _ _ _ _ (Zg hi hI hm)) ?_;(rw[hdn.out]));go_ret;exact⟨rfl,rfl⟩
  ):p:=h
theorem W42{p:Prop}(h:p:=by
  rw[hF.out];go_enter func66,ntmps66;go_upto_region 10 with(first|refine YL ?_|refine YX ?_;intro bx w hI|refine YS ?_;intro w hI)
  refine ZT [9,10,11] 12 hI ?_;intro wd hI
  (repeat(refine ZQ ?_;go_wp2_with(first|refine YS ?_;intro w hI|refine YL ?_);refine ZP ?_))
  go_wp2_with(fail)
  (try rw[hs]at hI)
  exact⟨rfl,_,gD KF _ _,rfl,hI.tl⟩
  ):p:=h
theorem W43{p:Prop}(h:p:=by unfold gi dF;rw[List.getD_eq_getElem?_getD,List.getD_eq_getElem?_getD,List.append_assoc,List.getElem?_append_left (by rw[List.length_take];omega),List.getElem?_take_of_lt OM]):p:=h
theorem W44{p:Prop}(h:p:=by go_enter func142,ntmps142;go_wp2_with(first|with_reducible refine YL ?_|(with_reducible refine YX ?_);intro bx w hI);go_ret;exact⟨by rw[hf.out];rfl,hI.below⟩):p:=h
theorem W45{p:Prop}(h:p:=by go_wp2_with(first|go_at_call 136;refine KC pg hI (dK _ pr ab _ _ _ (hI.sat _ aX) (hI.nd aX) (by exact hk1.out) OM) ?_;intro w1 hI|go_at_call 136;refine KN hI (j5 _ pr ab _ _ _ (hI.sat _ aX) (hI.nd aX) (by exact hk2.out) OM) ?_;intro cs' w1 hI|refine YS ?_;intro w hI|refine YX ?_;intro bx w hI);exact W35):p:=h
theorem W46{p:Prop}(h:p:=by rintro e w' ⟨Y',rfl,hJ⟩;exact⟨Y',_,rfl,HD rfl,hJ⟩):p:=h
theorem W47{p:Prop}(h:p:=by go_enter func95,ntmps95;go_wp2_with(refine YL ?_);go_ret;exact⟨_,rfl,(iX h1 rfl hI).dO⟩):p:=h
theorem W48{p:Prop}(h:p:=by exact bodyPost_ret (aF hI rfl rfl mU (bG.out (t:=143)) hn0) rfl ⟨by rw[hD.out];rfl,hI.sub (.cons _ (.cons _ (.cons _ (.cons _ (.refl _)))))⟩):p:=h
theorem W49{p:Prop}(h:p:=by exact bodyPost_ret (aF hI rfl rfl mU (bG.out (t:=158)) hn0) rfl ⟨by rw[hD.out];rfl,hI.sub (.cons _ (.cons _ (.cons _ (.cons _ (.refl _)))))⟩):p:=h
theorem W50{p:Prop}(h:p:=by simp only[List.set_cons_zero]at hI;generalize hmm:gN (gi z2 14) (gi (sub z2 0 7) 1)=mm at*;replace hmm:=HD hmm;have hs:gb [mm] 0=mm:=rfl;go_wp2_with(with_reducible refine bM hI RF mU (by exact tV) (by rw[hzl]) SI hs ?_);go_ret;rw[hgz.out,hmm.out];exact⟨rfl,hI.end_,hI.mbk mU⟩):p:=h
theorem W51{p:Prop}(h:p:=by go_wp2_with(first|go_at_call 138;refine KC pg hI (gK _ pr ab _ hk1.out (hI.sat _ aX) (hI.nd aX)) ?_;intro w1 hI|go_at_call 136;refine KN hI (j5 _ pr ab _ _ _ (hI.sat _ aX) (hI.nd aX) (by exact hk2.out) OM) ?_;intro cs' w1 hI|refine YS ?_;intro w hI|refine YX ?_;intro bx w hI);exact W35):p:=h
theorem W52{p:Prop}(h:p:=by
  have hr:Hid (ng key n=false):=HD (by simp[ng];omega)
  go_enter func144,ntmps144
  go_wp2
  go_ret;exact⟨eH hr.out.symm,rfl⟩
  ):p:=h
theorem W53{p:Prop}(h:p:=by
  obtain⟨⟨x1,c1⟩,h1,h⟩:=Option.bind_eq_some_iff.1 h
  obtain⟨⟨x2,c2⟩,h2,h⟩:=Option.bind_eq_some_iff.1 h;simp only[Option.some.injEq,Prod.mk.injEq]at h;obtain⟨⟨rfl,_⟩,_⟩:=h;exact fo (aa _) (by rw[cB];exact dN h2) (aa _) (aa _) (aa _)
  ):p:=h
theorem W54{p:Prop}(h:p:=by rw[<-List.append_assoc,<-List.append_assoc];exact List.Perm.append_right _ List.perm_append_comm):p:=h
theorem W55{p:Prop}(h:p:=by exact bodyPost_ret (aF hI rfl rfl aM (bG.out (t:=143)) (by simp only[dL,aa,hl1,hl2,hl3,hl4])) rfl (.inl ⟨_,_,_,(by simp only[qM,h0.out,h1.out,h2.out,Option.bind_some];rfl),(by simp only[dL,aa,hl1,hl2,hl3,hl4]),rfl,hI.sub SB⟩)):p:=h
theorem W56{p:Prop}(h:p:=by exact bodyPost_ret (aF hI rfl rfl aM (bG.out (t:=158)) (by simp only[fo,aa,hl1,hl2,hl3,hl4])) rfl (.inl ⟨_,_,_,(by simp only[mY,h0.out,h1.out,Option.bind_some];rfl),(by simp only[fo,aa,hl1,hl2,hl3,hl4]),rfl,hI.sub SB⟩)):p:=h
theorem W57{p:Prop}(h:p:=by go_wp2_with(fail);go_ret;exact⟨rfl,hI.tl⟩):p:=h
theorem W58{p:Prop}(h:p:=by
  go_wp2
  go_ret;exact⟨eH (by rw[show aP n=false from by simp[aP];omega]),rfl⟩
  ):p:=h
theorem W59{p:Prop}(h:p:=by unfold jc;exact bodyPost_ret (aF hI rfl rfl aA wX (by simp only[List.length_set];omega)) rfl ⟨rfl,hI.below⟩):p:=h
theorem W60{p:Prop}(h:p:=by
  by_cases h:0<=n
  ·go_enter func161,ntmps161
   go_wp2
   go_ret;exact⟨eH (by simp[gF,h]),rfl⟩
  ·go_enter func161,ntmps161
   go_wp2
   go_ret;exact⟨eH (by rw[show gF n=false from by simp[gF];omega]),rfl⟩
  ):p:=h
theorem W61{p:Prop}(h:p:=by
  have hv:(zs.map (Value.int .i64))[off]? =some (.int .i64 (gi zs off)):=by simp[hl,gi]
  unfold fP execOp;simp only[hx,ia,Instr.field,Sem.run_bind,run_underlying hu,Result.andThen_ok,hf,ht,ho,asAgg,Sem.run_pure,pJ hT hv]
  ):p:=h
theorem W62{p:Prop}(h:p:=by
  (repeat(first|refine ZS ?_|refine ZQ ?_;go_wp2_with(refine YL ?_);refine ZP ?_))
  go_wp2_with(fail);rw[hF.out];exact W39
  ):p:=h
theorem W63{p:Prop}(h:p:=by
  refine bH ?_;intro bx w hI;(simp only[QN]);(repeat(refine ZQ ?_;go_wp2_with(refine YS ?_;intro w hI);refine ZP ?_))
  go_wp2_with(fail);rw[hF2.out];exact⟨rfl,_,gD KF _ _,Y,rfl,hI.sub (.cons _ (.cons _ (.refl _)))⟩
  ):p:=h
theorem W64{p:Prop}(h:p:=by go_enter func79,ntmps79;go_wp2_with(first|refine YL ?_|go_at_call 123;refine KK hI (Hd _ X.f X.b X.l Y.vb Y.rc Y.ra S _ L hL.out n hn.out hvl hvw (hI.at_ aA)) ?_;intro ad cd w1 hI);rw[hF2.out];exact W39):p:=h
theorem W65{p:Prop}(h:p:=by subst he;exact⟨_,rfl,_,_,_,[],_,[],hW',trodAll_mk1 (shut_bool underlying4 _),(trodAll_cons_mk (Below.trod Un KF (of_decide_eq_true KF) k0 bel lt0) trodAll_mk0),rfl,bel.frame _,λh=>by cases h⟩):p:=h
theorem W66{p:Prop}(h:p:=by simp only[Option.some.injEq,Addr.mk.injEq]at he;obtain⟨rfl,rfl,_⟩:=he;unfold fP execOp;simp[hx,Instr.loadAt,Instr.sureAddr,Sem.run_bind,Sem.run_pure,Result.andThen_ok,loadVar,hT.isAgg,load,Sem.run,hcell]):p:=h
theorem W67{p:Prop}(h:p:=by
  refine .inr ?_
  by_cases hb:bl=sub zs 7 2
  ·refine .inr ⟨rfl,by simpa using hb,?_⟩
   cases hm2:aI (sub zs 0 7) (who:Int)
   ·rfl
   ·exact absurd ⟨rfl,hb,hm2⟩ hc
  ·exact .inl ⟨rfl,by simpa using hb⟩
  ):p:=h
theorem W68{p:Prop}(h:p:=by
  rintro e w' (⟨z',b',cs',h1,h2,h3,h4⟩ | ⟨h1,_⟩)
  ·rw[hr]at h1
   simp only[Option.some.injEq,Prod.mk.injEq]at h1;obtain⟨⟨rfl,rfl⟩,rfl⟩:=h1;exact⟨h2,h3,h4⟩
  ·rw[hr]at h1;cases h1
  ):p:=h
theorem W69{p:Prop}(h:p:=by rw[hF.out];clear hF hg;go_enter func95,ntmps95;go_wp2_with(first|refine YL ?_|refine YT ?_;intro w hI;(try simp only[QS]at hI));go_ret;exact⟨_,rfl,(iX h1 rfl hI).dO⟩):p:=h
theorem W70{p:Prop}(h:p:=by go_wp2_with(first|refine YL ?_|go_at_call 108;refine KG hI (ni _ X _ _ x0 hx0 _ L6.out _ _ _ _ hP (hI.at_ aM)) ?_;intro Yp w1 hI);rw[r_.out];exact⟨rfl,_,gD KF _ _,_,rfl,hI.tl⟩):p:=h
theorem W71{p:Prop}(h:p:=by simp only[aa,jO,jP,iB,iC,jk,jl,gB,eU,iD,iE,hl1,hl2,hl3,hl4]at hI|-;go_wp2_with(fail);exact W32):p:=h
theorem W72{p:Prop}(h:p:=by go_wp2_with(first|go_at_call 136;refine KN hI (j5 _ pr ab _ _ _ (hI.sat _ aX) (hI.nd aX) (by exact hk1.out) OM) ?_;intro cs' w1 hI|refine YX ?_;intro bx w hI);exact W35):p:=h
theorem W73{p:Prop}(h:p:=by
  go_enter func17,ntmps17;go_wp2_with(first|refine YL ?_|refine YX ?_;intro bx w hI|go_at_call 34;refine KR (dR _ _) ?_)
  go_ret2
  exact⟨rfl,hI.below⟩
  ):p:=h
theorem W74{p:Prop}(h:p:=by
  rw[if_pos h2]
  exact QV w0 X Y S hX k z hz e he h1 h2 hI
  ):p:=h
theorem W75{p:Prop}(h:p:=by
  go_upto_region 3 with(fail)
  refine ZT [7,8] 9 hI ?_;intro wd hI
  (repeat(refine ZQ ?_;go_wp2_with(first|refine YS ?_;intro w hI|refine YL ?_);refine ZP ?_))
  exact W14
  ):p:=h
theorem W76{p:Prop}(h:p:=by
  have hs:w.ownsRow 0 e size (.slice a' n' c) n xs:=h.sat _ hm;rcases hs.2 with⟨hv,rfl⟩ | ⟨g,cap,cur,hv,_,_,hc,_⟩
  ·exact Nat.zero_le _
  ·cases hv;exact hc
  ):p:=h
theorem W77{p:Prop}(h:p:=by rw[hm.out];go_enter func42,ntmps42;go_wp2_with(refine YT ?_;intro w hI;(try simp only[QS]at hI));exact⟨rfl,_,gD KF _ _,rfl,iX h1 rfl hI⟩):p:=h
theorem W78{p:Prop}(h:p:=by go_wp2_with(first|go_at_call 138;refine KN hI (xE _ pr ab _ hk1.out (hI.sat _ aX) (hI.nd aX)) ?_;intro cs' w1 hI|refine YX ?_;intro bx w hI);exact W35):p:=h
theorem W79{p:Prop}(h:p:=by
  go_wp2
  go_ret;exact⟨eH (by simp[aP,h]),rfl⟩
  ):p:=h
theorem W80{p:Prop}(h:p:=by go_enter func38,ntmps38;go_wp2_with fail;go_ret;exact⟨rfl,rfl⟩):p:=h
theorem W81{p:Prop}(h:p:=by go_wp2_with(first|refine YS ?_;intro w hI|refine YX ?_;intro bx w hI|refine YL ?_|go_at_call 144;refine KR (mq _ _ _) ?_);exact Ui):p:=h
theorem W82{p:Prop}(h:p:=by rintro e w' ⟨Y',rfl,hJ⟩;exact⟨_,rfl,QW hi hu (h.on hJ jy)⟩):p:=h
theorem W83{p:Prop}(h:p:=by exact⟨rfl,_,gD KF _ _,Y2,rfl,hI.sub (.cons _ (.cons _ (.refl _)))⟩):p:=h
theorem W84{p:Prop}(h:p:=by rw[List.take_append_of_le_length (by simp;omega),List.drop_append_of_le_length (by simp;omega)];simp[List.map_take,List.map_drop]):p:=h
theorem W85{p:Prop}(h:p:=by go_wp2_with(fail);go_ret;exact⟨rfl,hI.sub SB⟩):p:=h
theorem W86{p:Prop}(h:p:=by exact⟨rfl,.inr ⟨by simp only[mY,h0.out,h1.out,h2.out,h3.out,Option.bind_some,Option.bind_none],rfl,_,hI.sub SB⟩⟩):p:=h
theorem W87{p:Prop}(h:p:=by go_ret;exact⟨eH hf.out.symm,hI.below⟩):p:=h
theorem W88{p:Prop}(h:p:=by unfold fP execOp;simp only[hx,hy,Sem.run_bind,ML He Hf h1 j false,Result.andThen_ok];rw[<-h2 j];rfl):p:=h
theorem W89{p:Prop}(h:p:=by exact bodyPost_ret (oW hI rfl rfl aA (by(with_reducible exact wY)) (by rfl)) rfl ⟨rfl,hI.below⟩):p:=h
theorem W90{p:Prop}(h:p:=by exact⟨rfl,.inr ⟨by simp only[qM,h0.out,h1.out,Option.bind_some,Option.bind_none],rfl,_,hI.sub SB⟩⟩):p:=h
theorem W91{p:Prop}(h:p:=by go_wp2_with fail;go_ret;exact⟨rfl,hI.end_,hI.mbk mU⟩):p:=h
theorem W92{p:Prop}(h:p:=by go_wp2_with fail;go_ret;exact⟨rfl,hI.end_,hI.mbk aM⟩):p:=h
theorem W93{p:Prop}(h:p:=by
  have:k=0∨k=1∨k=2∨k=3∨k=4:=by omega
  rcases this with rfl|rfl|rfl|rfl|rfl<;>(unfold wrap64;decide)
  ):p:=h
theorem W94{p:Prop}(h:p:=by rw[show(mD Y i a c).m j=Y.m j from bZ _ _ h,show(sG C i l).past j=C.past j from bZ _ _ h]):p:=h
theorem W95{p:Prop}(h:p:=by have:=Jm (u64 z);simp only[ag,sH,List.map_cons,List.flatMap_cons,List.length_append];omega):p:=h
theorem W96{p:Prop}(h:p:=by go_wp2_with(fail);exact bodyPost_ret (aF hI rfl rfl aA Fj hsl) rfl ⟨rfl,hI.below⟩):p:=h
theorem W97{p:Prop}(h:p:=by
  rintro e w' (⟨z',b',cs',h1,h2,h3,h4⟩ | ⟨h1,h2,h3⟩)
  ·rw[hr]at h1;cases h1
  ·exact⟨h2,h3⟩
  ):p:=h
theorem W98{p:Prop}(h:p:=by
  rw[if_pos h1]
  obtain⟨Um,rfl⟩:=QX h1;exact QY w0 X Y S hX k hk5 Um z hz e he OM h1 hI
  ):p:=h
theorem W99{p:Prop}(h:p:=by exact bodyPost_ret (iY hI rfl rfl aA (bG.out (t:=41)) hn) rfl ⟨rfl,hI.sub SB⟩):p:=h
theorem acP{p:Prop}(h:p:=by simp[IntKind.wrap,IntKind.bits,IntKind.signed];omega):p:=h
theorem acQ{p:Prop}(h:p:=by go_wp2_with(fail);go_ret;exact⟨rfl,hI.below⟩):p:=h
theorem afF{p:Prop}(h:p:=by exact⟨a,c,hs (blk pr 219 [.slice a bs.length c]) SI,hc,hm,hs (mQ ab a bs) SI⟩):p:=h
theorem afG{p:Prop}(h:p:=by exact bodyPost_ret (aF hI rfl rfl aA mX DC) rfl ⟨rfl,hI.below⟩):p:=h
theorem afH{p:Prop}(h:p:=by exact bodyPost_ret (aF hI rfl rfl aA wX hm) rfl ⟨rfl,hI.below⟩):p:=h
theorem afI{p:Prop}(h:p:=by exact⟨rfl,_,gD KF _ _,Y2,rfl,hI.sub (.cons _ (.cons _ (.cons _ (.refl _))))⟩):p:=h
theorem afJ{p:Prop}(h:p:=by rintro e w1 ⟨rfl,a1,c1,hJ⟩;exact⟨rfl,a1,c1,A.nin (hI.on hJ aR.here) uO⟩):p:=h
theorem afK{p:Prop}(h:p:=by
  go_wp2_with fail
  go_quiet (fail)
  go_wp2_with fail
  go_ret2
  exact⟨rfl,bdn _ _⟩
  ):p:=h
theorem afL{p:Prop}(h:p:=by
  rintro e w' ⟨Y',rfl,hJ⟩
  refine⟨Y',rfl,?_⟩;rw[MN]at hJ;exact hJ
  ):p:=h
theorem afM{p:Prop}(h:p:=by exact QZ w0 X Y S hX k z hz e he (by rw[h0];rfl) (by rw[h0];rfl) h1 hI):p:=h
theorem afN{p:Prop}(h:p:=by
  by_cases h2:k<n∧k%6≠0
  ·rw[if_pos h2,if_pos OM]
  ·rw[if_neg h2,if_neg OM]
  ):p:=h
theorem acR{p:Prop}(h:p:=by exact⟨rfl,_,gD KF _ _,Y1,rfl,hI.tl⟩):p:=h
theorem afO{p:Prop}(h:p:=by
  have:k=j:=by simpa using h2
  rw[if_pos this.symm];exact congrArg some h3
  ):p:=h
theorem afP{p:Prop}(h:p:=by rw[List.length_map];exact Nat.le_trans (List.length_filter_le _ _) SI):p:=h
theorem afQ{p:Prop}(h:p:=by unfold gi;rw[List.getD_eq_getElem?_getD,List.getElem?_eq_none h];rfl):p:=h
theorem acS{p:Prop}(h:p:=by go_wp2_with(fail);rw[hF2.out];exact W39):p:=h
theorem acT{p:Prop}(h:p:=by go_ret;exact⟨rfl,Bu hg hI aA⟩):p:=h
