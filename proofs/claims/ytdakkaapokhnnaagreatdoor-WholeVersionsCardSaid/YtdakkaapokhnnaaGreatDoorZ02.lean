/- Contracts of functions. No condition. -/
import Derived.BigQuiet
import Derived.Carry
import Derived.ChangeOld
import Derived.Conc.LoneSelect
import Derived.Conc.LoneSelectN
import Derived.Deep.AppendSrc
import Derived.Deep.CutBlock
import Derived.Deep.DeepCutAuto
import Derived.Deep.LoopGhost
import Derived.Deep.Quiet
import Derived.Deep.RegionWith
import Derived.Deep.Upon
import Derived.Defers
import Derived.LaidMore
import Derived.Laws.AppendOwnNone
import Derived.Laws.BitsLemmas
import Derived.Laws.BytesArg
import Derived.Laws.Externs
import Derived.Laws.MakeOwn
import Derived.Laws.OwnMore
import Derived.Laws.Strings
import Derived.Lib.AppendIntMem
import Derived.Lib.AppendStr
import Derived.Lib.Builder
import Derived.Lib.Hide
import Derived.Lib.ItoaLen
import Derived.Lib.LaidTab
import Derived.Lib.QuietBelow
import Derived.Lib.SlBytesConst
import Derived.Lib.Slices
import Derived.Lib.UnsafeStr
import Derived.MapKept
import Derived.OpenShut
import Derived.ProofKit
import Derived.Recover
import Derived.ShutString
import Derived.SizedLaws
import Derived.StillTail
import Derived.Stop.Joined
import Derived.Tactics2
import Derived.WalkKit
import Derived.WalkLawsBesides
import Derived.Test.YtdakkaapokhnnaaGreatDoorZ01
namespace Go.Proofs.YtdakkaapokhnnaaGreatDoor
open Go.RowKit Go.Proofs.Tryz
set_option maxRecDepth 100000
set_option maxHeartbeats 6400000
set_option linter.all false
instance:bP prog 28 5:=⟨⟨KF,KF⟩⟩
instance:bP prog 30 7:=⟨⟨KF,KF⟩⟩
instance:bP prog 37 7:=⟨⟨KF,KF⟩⟩
instance:bP prog 38 28:=⟨⟨KF,KF⟩⟩
instance:bP prog 39 140:=⟨⟨KF,KF⟩⟩
instance:bP prog 41 174:=⟨⟨KF,KF⟩⟩
instance:bP prog 46 870:=⟨⟨KF,KF⟩⟩
instance:bP prog 48 3:=⟨⟨KF,KF⟩⟩
instance:bP prog 50 11:=⟨⟨KF,KF⟩⟩
instance:bP prog 54 5:=⟨⟨KF,KF⟩⟩
instance:bP prog 68 2:=⟨⟨KF,KF⟩⟩
instance:bP prog 70 3:=⟨⟨KF,KF⟩⟩
instance:bP prog 77 5:=⟨⟨KF,KF⟩⟩
instance:bP prog 82 5:=⟨⟨KF,KF⟩⟩
instance:bP prog 84 5:=⟨⟨KF,KF⟩⟩
instance:bP prog 86 16:=⟨⟨KF,KF⟩⟩
instance:bP prog 89 875:=⟨⟨KF,KF⟩⟩
instance:bP prog 91 2:=⟨⟨KF,KF⟩⟩
instance:bP prog 93 8:=⟨⟨KF,KF⟩⟩
instance:bP prog 96 870:=⟨⟨KF,KF⟩⟩
instance:bP prog 98 2818:=⟨⟨KF,KF⟩⟩
instance:bP prog 105 2:=⟨⟨KF,KF⟩⟩
instance:bP prog 117 3:=⟨⟨KF,KF⟩⟩
instance:bP prog 118 35:=⟨⟨KF,KF⟩⟩
instance:bP prog 137 5:=⟨⟨KF,KF⟩⟩
instance:bP prog 143 189:=⟨⟨KF,KF⟩⟩
instance:bP prog 158 192:=⟨⟨KF,KF⟩⟩
instance:bP prog 169 64:=⟨⟨KF,KF⟩⟩
instance:bP prog 171 65:=⟨⟨KF,KF⟩⟩
instance:bP prog 185 3:=⟨⟨KF,KF⟩⟩
instance:bP prog 208 17:=⟨⟨KF,KF⟩⟩
instance:aQ prog 2:=⟨⟨KF,KF⟩⟩
instance:aQ prog 3:=⟨⟨KF,KF⟩⟩
instance:aQ prog 4:=⟨⟨KF,KF⟩⟩
instance:aQ prog 5:=⟨⟨KF,KF⟩⟩
instance:aQ prog 9:=⟨⟨KF,KF⟩⟩
instance:aQ prog 20:=⟨⟨KF,KF⟩⟩
instance:aQ prog 22:=⟨⟨KF,KF⟩⟩
instance:aQ prog 26:=⟨⟨KF,KF⟩⟩
instance:aQ prog 32:=⟨⟨KF,KF⟩⟩
instance:aQ prog 51:=⟨⟨KF,KF⟩⟩
instance:aQ prog 58:=⟨⟨KF,KF⟩⟩
instance:aQ prog 63:=⟨⟨KF,KF⟩⟩
instance:aQ prog 65:=⟨⟨KF,KF⟩⟩
instance:aQ prog 66:=⟨⟨KF,KF⟩⟩
instance:aQ prog 74:=⟨⟨KF,KF⟩⟩
instance:aQ prog 80:=⟨⟨KF,KF⟩⟩
instance:aQ prog 81:=⟨⟨KF,KF⟩⟩
instance:aQ prog 83:=⟨⟨KF,KF⟩⟩
instance:aQ prog 87:=⟨⟨KF,KF⟩⟩
instance:aQ prog 94:=⟨⟨KF,KF⟩⟩
instance:aQ prog 128:=⟨⟨KF,KF⟩⟩
instance:aQ prog 125:=⟨⟨KF,KF⟩⟩
instance:aQ prog 134:=⟨⟨KF,KF⟩⟩
instance:aQ prog 135:=⟨⟨KF,KF⟩⟩
instance:aQ prog 138:=⟨⟨KF,KF⟩⟩
instance:aQ prog 148:=⟨⟨KF,KF⟩⟩
instance:aQ prog 173:=⟨⟨KF,KF⟩⟩
instance:aQ prog 175:=⟨⟨KF,KF⟩⟩
instance:aQ prog 181:=⟨⟨KF,KF⟩⟩
instance:aQ prog 189:=⟨⟨KF,KF⟩⟩
instance:aQ prog 225:=⟨⟨KF,KF⟩⟩
instance:aQ prog 226:=⟨⟨KF,KF⟩⟩
instance:aQ prog 239:=⟨⟨KF,KF⟩⟩
instance:aQ prog 247:=⟨⟨KF,KF⟩⟩
instance:aQ prog 256:=⟨⟨KF,KF⟩⟩
instance:yn prog 50 11:=⟨by unfold nK;kernel_rfl⟩
instance:Lu prog 50:=⟨by unfold iH;kernel_rfl⟩
instance:yn prog 30 7:=⟨by unfold nK;kernel_rfl⟩
instance:Lu prog 30:=⟨by unfold iH;kernel_rfl⟩
instance:yn prog 37 7:=⟨by unfold nK;kernel_rfl⟩
instance:Lu prog 37:=⟨by unfold iH;kernel_rfl⟩
instance:yn prog 38 28:=⟨by unfold nK;kernel_rfl⟩
instance:Lu prog 38:=⟨by unfold iH;kernel_rfl⟩
instance:yn prog 39 140:=⟨by unfold nK;kernel_rfl⟩
instance:Lu prog 39:=⟨by unfold iH;kernel_rfl⟩
instance:yn prog 41 174:=⟨by unfold nK;kernel_rfl⟩
instance:Lu prog 41:=⟨by unfold iH;kernel_rfl⟩
instance:yn prog 28 5:=⟨by unfold nK;kernel_rfl⟩
instance:Lu prog 28:=⟨by unfold iH;kernel_rfl⟩
instance:yn prog 48 3:=⟨by unfold nK;kernel_rfl⟩
instance:Lu prog 48:=⟨by unfold iH;kernel_rfl⟩
instance:yn prog 91 2:=⟨by unfold nK;kernel_rfl⟩
instance:Lu prog 91:=⟨by unfold iH;kernel_rfl⟩
instance:yn prog 93 8:=⟨by unfold nK;kernel_rfl⟩
instance:Lu prog 93:=⟨by unfold iH;kernel_rfl⟩
instance:yn prog 158 192:=⟨by unfold nK;kernel_rfl⟩
instance:Lu prog 158:=⟨by unfold iH;kernel_rfl⟩
instance:yn prog 143 189:=⟨by unfold nK;kernel_rfl⟩
instance:Lu prog 143:=⟨by unfold iH;kernel_rfl⟩
instance:yn prog 117 3:=⟨by unfold nK;kernel_rfl⟩
instance:Lu prog 117:=⟨by unfold iH;kernel_rfl⟩
instance:yn prog 46 870:=⟨by unfold nK;kernel_rfl⟩
instance:Lu prog 46:=⟨by unfold iH;kernel_rfl⟩
instance:yn prog 118 35:=⟨by unfold nK;kernel_rfl⟩
instance:Lu prog 118:=⟨by unfold iH;kernel_rfl⟩
instance:yn prog 96 870:=⟨by unfold nK;kernel_rfl⟩
instance:Lu prog 96:=⟨by unfold iH;kernel_rfl⟩
instance:t_ prog 28 5:=⟨C.ach⟩
instance:t_ prog 37 7:=⟨C.aci⟩
instance:t_ prog 38 28:=⟨C.lW⟩
instance:t_ prog 39 140:=⟨C.acj⟩
instance:t_ prog 41 174:=⟨C.Sb⟩
instance:t_ prog 91 2:=⟨B.lW⟩
instance:t_ prog 48 3:=⟨B.ack⟩
instance:t_ prog 93 8:=⟨B.acm⟩
instance:t_ prog 30 7:=⟨B.aco⟩
instance:yO prog 28 5 3 1:=⟨⟨KF,KF⟩⟩
instance:yO prog 38 4 37 7:=⟨⟨KF,KF⟩⟩
instance:yO prog 39 5 38 28:=⟨⟨KF,KF⟩⟩
instance:yO prog 46 5 41 174:=⟨⟨KF,KF⟩⟩
instance:yO prog 118 5 37 7:=⟨⟨KF,KF⟩⟩
instance:yO prog 77 5 32 1:=⟨⟨KF,KF⟩⟩
instance:yO prog 82 5 81 1:=⟨⟨KF,KF⟩⟩
instance:yO prog 169 64 5 1:=⟨⟨KF,KF⟩⟩
instance:yO prog 84 5 83 1:=⟨⟨KF,KF⟩⟩
instance:yO prog 54 5 4 1:=⟨⟨KF,KF⟩⟩
instance:uQ prog 63 5 1 1 (.int .u8 0):=⟨⟨by kernel_rfl,by kernel_rfl,by kernel_rfl,by decide⟩⟩
instance:uQ prog 74 3 1 8 (.int .i64 0):=⟨⟨by kernel_rfl,by kernel_rfl,by kernel_rfl,by decide⟩⟩
instance:uQ prog 138 63 1 24 (.slice none 0 0):=⟨⟨by kernel_rfl,by kernel_rfl,by kernel_rfl,by decide⟩⟩
instance:uQ prog 83 117 3 24 (ia (au 3)):=⟨⟨by kernel_rfl,by kernel_rfl,by kernel_rfl,by decide⟩⟩
instance:uQ prog 22 50 11 88 (ia (au 11)):=⟨⟨by kernel_rfl,by kernel_rfl,by kernel_rfl,by decide⟩⟩
instance:uf prog 143:=⟨_,underlying143,by kernel_rfl⟩
instance:eD prog 143 0 0 1:=⟨_,underlying143,by kernel_rfl⟩
instance:eD prog 143 1 1 1:=⟨_,underlying143,by kernel_rfl⟩
instance:eD prog 143 2 2 174:=⟨_,underlying143,by kernel_rfl⟩
instance:eD prog 143 3 176 1:=⟨_,underlying143,by kernel_rfl⟩
instance:eD prog 143 4 177 2:=⟨_,underlying143,by kernel_rfl⟩
instance:eD prog 143 5 179 3:=⟨_,underlying143,by kernel_rfl⟩
instance:eD prog 143 6 182 7:=⟨_,underlying143,by kernel_rfl⟩
instance:uf prog 158:=⟨_,underlying158,by kernel_rfl⟩
instance:eD prog 158 0 0 1:=⟨_,underlying158,by kernel_rfl⟩
instance:eD prog 158 1 1 1:=⟨_,underlying158,by kernel_rfl⟩
instance:eD prog 158 2 2 174:=⟨_,underlying158,by kernel_rfl⟩
instance:eD prog 158 3 176 1:=⟨_,underlying158,by kernel_rfl⟩
instance:eD prog 158 4 177 1:=⟨_,underlying158,by kernel_rfl⟩
instance:eD prog 158 5 178 2:=⟨_,underlying158,by kernel_rfl⟩
instance:eD prog 158 6 180 2:=⟨_,underlying158,by kernel_rfl⟩
instance:eD prog 158 7 182 3:=⟨_,underlying158,by kernel_rfl⟩
instance:eD prog 158 8 185 7:=⟨_,underlying158,by kernel_rfl⟩
instance:uf prog 91:=⟨_,underlying91,by kernel_rfl⟩
instance:eD prog 91 0 0 1:=⟨_,underlying91,by kernel_rfl⟩
instance:eD prog 91 1 1 1:=⟨_,underlying91,by kernel_rfl⟩
instance:uf prog 93:=⟨_,underlying93,by kernel_rfl⟩
instance:eD prog 93 0 0 1:=⟨_,underlying93,by kernel_rfl⟩
instance:eD prog 93 1 1 2:=⟨_,underlying93,by kernel_rfl⟩
instance:eD prog 93 2 3 2:=⟨_,underlying93,by kernel_rfl⟩
instance:eD prog 93 3 5 3:=⟨_,underlying93,by kernel_rfl⟩
instance:uf prog 117:=⟨_,underlying117,by kernel_rfl⟩
instance:eD prog 117 0 0 1:=⟨_,underlying117,by kernel_rfl⟩
instance:eD prog 117 1 1 1:=⟨_,underlying117,by kernel_rfl⟩
instance:eD prog 117 2 2 1:=⟨_,underlying117,by kernel_rfl⟩
instance:uf prog 50:=⟨_,underlying50,by kernel_rfl⟩
instance:eD prog 50 0 0 1:=⟨_,underlying50,by kernel_rfl⟩
instance:eD prog 50 1 1 1:=⟨_,underlying50,by kernel_rfl⟩
instance:eD prog 50 2 2 1:=⟨_,underlying50,by kernel_rfl⟩
instance:eD prog 50 3 3 1:=⟨_,underlying50,by kernel_rfl⟩
instance:eD prog 50 4 4 1:=⟨_,underlying50,by kernel_rfl⟩
instance:eD prog 50 5 5 3:=⟨_,underlying50,by kernel_rfl⟩
instance:eD prog 50 6 8 1:=⟨_,underlying50,by kernel_rfl⟩
instance:eD prog 50 7 9 1:=⟨_,underlying50,by kernel_rfl⟩
instance:eD prog 50 8 10 1:=⟨_,underlying50,by kernel_rfl⟩
instance:uf prog 48:=⟨_,underlying48,by kernel_rfl⟩
instance:eD prog 48 0 0 1:=⟨_,underlying48,by kernel_rfl⟩
instance:eD prog 48 1 1 1:=⟨_,underlying48,by kernel_rfl⟩
instance:eD prog 48 2 2 1:=⟨_,underlying48,by kernel_rfl⟩
instance:uf prog 30:=⟨_,underlying30,by kernel_rfl⟩
instance:eD prog 30 0 0 1:=⟨_,underlying30,by kernel_rfl⟩
instance:eD prog 30 1 1 1:=⟨_,underlying30,by kernel_rfl⟩
instance:eD prog 30 2 2 5:=⟨_,underlying30,by kernel_rfl⟩
theorem fE:prog.follows .mixedOrders=true:=by kernel_rfl
theorem KC{P:Program}{f:FuncId}{args:Array Value}{w:World}{Q:Ending->World->Prop}{T:List Nat}{w0:World}{m m':List bT}{r r':bT}{v:Value}(hu:aU r r' m m')(hI:Inv T w0 w m)(h:Calls P f args w λe w'=>e=.returned v∧Inv r.own w w' [r'])(k:∀w',Inv T w0 w' m'->Q (.returned v) w'):Calls P f args w Q:=h.mono λe w' hh=>by obtain⟨rfl,hJ⟩:=hh;exact k w' (hI.on hJ hu)
theorem KD{P:Program}{f:FuncId}{args:Array Value}{w:World}{Q:Ending->World->Prop}{T:List Nat}{w0:World}{m:List bT}{v:Value}(hI:Inv T w0 w m)(h:Calls P f args w λe w'=>e=.returned v∧Below w.heap.size w w')(k:∀w',Inv T w0 w' m->Q (.returned v) w'):Calls P f args w Q:=h.mono λe w' hh=>by obtain⟨rfl,hJ⟩:=hh;exact k w' (hI.call hJ)
theorem KE{P:Program}{f:FuncId}{args:Array Value}{w:World}{Q:Ending->World->Prop}{T:List Nat}{w0:World}{m:List bT}{v:Value}(h:Calls P f args w λe w'=>e=.returned v∧Inv T w0 w' m)(k:∀w',Inv T w0 w' m->Q (.returned v) w'):Calls P f args w Q:=h.mono λe w' hh=>by obtain⟨rfl,hJ⟩:=hh;exact k w' hJ
theorem ZR{T:List Nat}{w0:World}{m:List bT}{P:Program}{id:Nat}{l:List Oper}{Q:Exit->Act->World->Prop}{a:Act}{w:World}(S F G L:List Nat)(C:World->Prop)(hI:Inv T w0 w m)(h:∀wd,Inv T w0 wd m->kV P l.toArray S F G C Q L a wd)(hm:P.follows .mixedOrders=true:=by exact fE)(hB:ace l.toArray S F G L=true:=by kernel_rfl):(Code.region id l.toArray true).wp P Q a w:=JH S F G L C hm hB (h _ hI.drew)
section
variable {P:Program}{l:List Oper}{S F G:List Nat}{C:World->Prop}{Q:Exit->Act->World->Prop}{i:Nat}{is:List Nat}{a:Act}{w:World}{dst:Option Tmp}{op:Op}{ty:TypeId}{pos:String}{af:Array Edge}{g:Option (Nat×Bool)}
theorem ZA(h:wpList P l.toArray (sqK P l.toArray S F G C Q is false) [⟨dst,op,ty,pos,af,none⟩] a w)(ho:l[i]? =some ⟨dst,op,ty,pos,af,g⟩:=by with_unfolding_all rfl)(hS:S.elem i=true:=by with_unfolding_all rfl)(hG:G.elem i=false:=by with_unfolding_all rfl)(hw:Region.wanted ⟨dst,op,ty,pos,af,g⟩ (yielded l.toArray a.tmps)=true:=by with_unfolding_all rfl):kV P l.toArray S F G C Q (i::is) a w:=Xe ho hS hG hw h
theorem ZB(h:wpList P l.toArray (sqK P l.toArray S F G C Q is true) [⟨dst,op,ty,pos,af,none⟩] a w)(ho:l[i]? =some ⟨dst,op,ty,pos,af,g⟩:=by with_unfolding_all rfl)(hS:S.elem i=true:=by with_unfolding_all rfl)(hG:G.elem i=true:=by with_unfolding_all rfl)(hw:Region.wanted ⟨dst,op,ty,pos,af,g⟩ (yielded l.toArray a.tmps)=true:=by with_unfolding_all rfl):kV P l.toArray S F G C Q (i::is) a w:=Xe ho hS hG hw h
theorem ZC(h:wpList P l.toArray (sqR P l.toArray S F G C Q is w) [⟨dst,op,ty,pos,af,none⟩] a w)(ho:l[i]? =some ⟨dst,op,ty,pos,af,g⟩:=by with_unfolding_all rfl)(hS:S.elem i=false:=by with_unfolding_all rfl)(hF:F.elem i=false:=by with_unfolding_all rfl)(hw:Region.wanted ⟨dst,op,ty,pos,af,g⟩ (yielded l.toArray a.tmps)=true:=by with_unfolding_all rfl)(hp:JI op=true:=by with_unfolding_all rfl):kV P l.toArray S F G C Q (i::is) a w:=acf ho hS hF hw hp h
theorem ZD{v:Value}(hC:C w)(hv:∀w,C w->gu P ⟨dst,op,ty,pos,af,none⟩ a w v)(h:kV P l.toArray S F G C Q is (a.put dst v) w)(ho:l[i]? =some ⟨dst,op,ty,pos,af,g⟩:=by with_unfolding_all rfl)(hS:S.elem i=false:=by with_unfolding_all rfl)(hF:F.elem i=true:=by with_unfolding_all rfl)(hw:Region.wanted ⟨dst,op,ty,pos,af,g⟩ (yielded l.toArray a.tmps)=true:=by with_unfolding_all rfl):kV P l.toArray S F G C Q (i::is) a w:=iA ho hS hF hw hC hv h
end
theorem xA:(∀(x:bT) (l:List bT) (n:Nat),(x::l).eraseIdx (n+1)=x::l.eraseIdx n)∧(∀(x:bT) (l:List bT),(x::l).eraseIdx 0=l):=⟨λ_ _ _=>rfl,λ_ _=>rfl⟩
theorem ZL{p q:Prop}(k:q)(h:q->p:=by intro k;replace k:=HD k;(with_reducible refine Uv RF RF (by intro w;unfold gu;go_simp;with_reducible rfl) ?_);(simp only[QN]);exact k.out):p:=h k
theorem Inv.tl{T:List Nat}{w0 w:World}{x:bT}{m:List bT}(h:Inv T w0 w (x::m)):Inv T w0 w m:=h.sub (.cons _ (.refl _))
section
variable {P:Program}{f:FuncId}{args:Array Value}{w:World}{Q:Ending->World->Prop}{T:List Nat}{w0:World}{m:List bT}{r:bT}{α β γ:Type}{ε:Ending}
theorem KR{v:Value}(h:Calls P f args w λe w'=>e=.returned v∧w'=w)(k:Q (.returned v) w):Calls P f args w Q:=h.mono λe w' hh=>by obtain⟨rfl,rfl⟩:=hh;exact k
theorem KI{m':List bT}{r':bT}(hI:Inv T w0 w m)(h:Calls P f args w λe w'=>e=ε∧Inv r.own w w' [r'])(k:∀w',Inv T w0 w' m'->Q ε w')(hu:aU r r' m m':=by exact UU):Calls P f args w Q:=h.mono λe w' hh=>by obtain⟨rfl,hJ⟩:=hh;exact k w' (hI.on hJ hu)
theorem KN{m':α->List bT}{r':α->bT}(hI:Inv T w0 w m)(h:Calls P f args w λe w'=>e=ε∧∃y,Inv r.own w w' [r' y])(k:∀y w',Inv T w0 w' (m' y)->Q ε w')(hu:∀y,aU r (r' y) m (m' y):=by intro _;exact UU):Calls P f args w Q:=h.mono λe w' hh=>by obtain⟨rfl,y,hJ⟩:=hh;exact k y w' (hI.on hJ (hu y))
theorem KG{m':α->List bT}{r':α->bT}{v:α->Value}(hI:Inv T w0 w m)(h:Calls P f args w λe w'=>∃y,e=.returned (v y)∧Inv r.own w w' [r' y])(k:∀y w',Inv T w0 w' (m' y)->Q (.returned (v y)) w')(hu:∀y,aU r (r' y) m (m' y):=by intro _;exact UU):Calls P f args w Q:=h.mono λe w' hh=>by obtain⟨y,rfl,hJ⟩:=hh;exact k y w' (hI.on hJ (hu y))
theorem KH{m':α->β->List bT}{r':α->β->bT}{v:α->β->Value}(hI:Inv T w0 w m)(h:Calls P f args w λe w'=>∃y z,e=.returned (v y z)∧Inv r.own w w' [r' y z])(k:∀y z w',Inv T w0 w' (m' y z)->Q (.returned (v y z)) w')(hu:∀y z,aU r (r' y z) m (m' y z):=by intro _ _;exact UU):Calls P f args w Q:=h.mono λe w' hh=>by obtain⟨y,z,rfl,hJ⟩:=hh;exact k y z w' (hI.on hJ (hu y z))
theorem KJ{m':α->β->List bT}{r':α->β->bT}{v:α->β->Value}{p:α->β->Prop}(hI:Inv T w0 w m)(h:Calls P f args w λe w'=>∃y z,e=.returned (v y z)∧p y z∧Inv r.own w w' [r' y z])(k:∀y z w',p y z->Inv T w0 w' (m' y z)->Q (.returned (v y z)) w')(hu:∀y z,aU r (r' y z) m (m' y z):=by intro _ _;exact UU):Calls P f args w Q:=h.mono λe w' hh=>by obtain⟨y,z,rfl,hp,hJ⟩:=hh;exact k y z w' hp (hI.on hJ (hu y z))
theorem KK{m':α->β->List bT}{x r':α->β->bT}{v:α->β->Value}(hI:Inv T w0 w m)(h:Calls P f args w λe w'=>∃y z,e=.returned (v y z)∧Inv r.own w w' [x y z,r' y z])(k:∀y z w',Inv T w0 w' (x y z::m' y z)->Q (.returned (v y z)) w')(hu:∀y z,aU r (r' y z) m (m' y z):=by intro _ _;exact UU):Calls P f args w Q:=h.mono λe w' hh=>by obtain⟨y,z,rfl,hJ⟩:=hh;exact k y z w' (hI.Uu hJ (hu y z))
theorem KL{m':α->β->γ->List bT}{x r':α->β->γ->bT}{v:α->β->γ->Value}(hI:Inv T w0 w m)(h:Calls P f args w λe w'=>∃y z t,e=.returned (v y z t)∧Inv r.own w w' [x y z t,r' y z t])(k:∀y z t w',Inv T w0 w' (x y z t::m' y z t)->Q (.returned (v y z t)) w')(hu:∀y z t,aU r (r' y z t) m (m' y z t):=by intro _ _ _;exact UU):Calls P f args w Q:=h.mono λe w' hh=>by obtain⟨y,z,t,rfl,hJ⟩:=hh;exact k y z t w' (hI.Uu hJ (hu y z t))
theorem KO{x:α->β->bT}{v:α->β->Value}(hI:Inv T w0 w m)(h:Calls P f args w λe w'=>∃y z,e=.returned (v y z)∧Inv [] w w' [x y z])(k:∀y z w',Inv T w0 w' (x y z::m)->Q (.returned (v y z)) w'):Calls P f args w Q:=h.mono λe w' hh=>by obtain⟨y,z,rfl,hJ⟩:=hh;exact k y z w' (hI.seq hJ)
theorem KP{x:bT}{r':α->bT}{v:α->Value}{m:List bT}{y:bT}(hI:Inv T w0 w (two r y::m))(h:Calls P f args w λe w'=>∃z,e=.returned (v z)∧Inv (two r y).own w w' [two (r' z) x])(k:∀z w',Inv T w0 w' (r' z::m)->Q (.returned (v z)) w'):Calls P f args w Q:=h.mono λe w' hh=>by obtain⟨z,rfl,hJ⟩:=hh;exact k z w' ((hI.on hJ aU.here).dR.sub (.cons_cons _ (.cons _ (.refl _))))
theorem ZT{l:List Oper}{id:Nat}{Q:Exit->Act->World->Prop}{a:Act}(S:List Nat)(n:Nat){L:List Nat}(hI:Inv T w0 w m)(h:∀wd,Inv T w0 wd m->kV P l.toArray S [] [] (λ_=>True) Q L a wd)(hL:L=List.range n:=by simp only[List.range,List.range.loop];rfl)(hm:P.follows .mixedOrders=true:=by exact fE)(hB:ace l.toArray S [] [] L=true:=by kernel_rfl):(Code.region id l.toArray true).wp P Q a w:=ZR S [] [] L (λ_=>True) hI h hm hB
end
theorem YV{p:Prop}(h:p:=by first|with_reducible exact Xf hI|with_reducible exact Xg hI|with_reducible exact LW hI|with_reducible exact afX hI|with_reducible exact Xn hI|with_reducible exact Sc hI|with_reducible exact acp hI|with_reducible exact Uw hI|with_reducible exact Xo hI|with_reducible exact Xp hI|with_reducible exact Xq hI|with_reducible exact Ux hI|with_reducible exact Uy hI|with_reducible exact Uz hI|with_reducible exact D5 hI|with_reducible exact Sd hI|with_reducible exact xB hI|with_reducible exact D6 hI|with_reducible exact LX hI|with_reducible exact Xr hI|with_reducible exact UA hI|with_reducible exact acr hI|with_reducible exact Xt hI):p:=h
theorem YL{p q:Prop}(k:q)(h:q->p:=by first|with_reducible exact kon|with_reducible exact Xu hI (hV:=by with_unfolding_all exact hV) |with_reducible exact Xv hI (hV:=by with_unfolding_all exact hV) |with_reducible exact Xw hI (hb:=hb) |with_reducible exact av YV|with_reducible exact akT|with_reducible exact keq|with_reducible exact kne|with_reducible exact akU|with_reducible exact aiU|with_reducible exact akV|with_reducible exact akW|with_reducible exact akX|with_reducible exact akY|with_reducible exact akZ|with_reducible exact ak0):p:=h k
theorem YS{p q:Prop}(k:q)(h:q->p:=by first|with_reducible exact JJ hI|with_reducible exact akN hI|with_reducible exact akO hI|with_reducible exact acs hI|with_reducible exact af1 hI|with_reducible exact af2 hI|with_reducible exact acu hI|with_reducible exact acv hI|with_reducible exact acw hI|with_reducible exact Xx hI|with_reducible exact Xy hI|with_reducible exact Xz hI|with_reducible exact acx hI|with_reducible exact acy hI|with_reducible exact XA hI|with_reducible exact af3 hI|with_reducible exact XB hI):p:=h k
theorem YT{p q:Prop}(k:q)(h:q->p:=by first|with_reducible exact akP hI|with_reducible exact akQ hI|with_reducible exact akR hI|with_reducible exact akS hI):p:=h k
theorem YX{p q:Prop}(k:q)(h:q->p:=by first|with_reducible exact aiT hI|with_reducible exact DT hI):p:=h k
theorem ZQ{p q:Prop}(k:q)(h:q->p:=by first|exact λk=>ZA k|exact λk=>ZB k|exact λk=>ZC k):p:=h k
theorem ZP{p q:Prop}(k:q)(h:q->p:=by intro k;(first|refine gz ?_ |refine iU (hI.sub SB) ?_ |refine iU trivial ?_ |refine fZ ?_);first|with_reducible exact dN k|exact k):p:=h k
theorem ZS{p q:Prop}(k:q)(h:q->p:=by intro k;replace k:=HD k;(first|with_reducible refine zR RF RF RF RF ?_ |with_reducible refine tZ RF RF trivial ?_ |with_reducible refine tZ RF RF (hI.sub SB) ?_ |refine iA RF RF RF RF (hI.sub SB) (by intro w (hI:Inv _ _ w _);first|exact YV|with_reducible exact ak1|with_reducible exact ak2|with_reducible exact acz|with_reducible exact aiX|with_reducible exact ak3|with_reducible exact ak4| (unfold gu;go_simp;with_reducible rfl)) ?_);(simp only[QN]);first|with_reducible exact dN k.out|exact k.out):p:=h k
theorem W1{p:Prop}(h:p:=by
  obtain⟨ub,lX⟩:=EQ (nM C i);obtain⟨W,hW⟩:=EH (nA C z);rw[hW.out];have hW2:W=if ub=true then(nC C i (gG i (rs C i) (gi z 0) (gi z 2) (gi z 3) (gi z 4) (sub z 5 3)).1,(gG i (rs C i) (gi z 0) (gi z 2) (gi z 3) (gi z 4) (sub z 5 3)).2)else(C,4):=by
   rw[<-hW.out,nA,if_neg OM];dsimp only;rw[if_pos OM,show(gi z 1).toNat=i by omega,lX]
  have hub:=HD lX;clear hW;cases ub
  ·rw[if_neg SI]at hW2
   replace hW2:=HD hW2;clear hg lX;go_enter func19,ntmps19;go_wp2_with(first|refine YL ?_|refine YX ?_;intro bx w hI|go_at_call 38;refine KR (jC _ _ i hi) ?_|go_at_call 33;refine KR (zT hi hI aM _ hub) ?_);go_ret;rw[hW2.out];exact⟨Y,rfl,hI.tl⟩
  ·obtain⟨g1,g2,g3,g4⟩:=hg lX
   have hu:C.up i=true:=by rw[nM,Bool.and_eq_true]at lX;exact lX.1
   have hvw:=HD g1;have hrl:=g2;have hok:=HD g3;have hbk:=HD g4;rw[if_pos rfl]at hW2;obtain⟨⟨S',e'⟩,hc0⟩:=EQ (gG i (rs C i) (gi z 0) (gi z 2) (gi z 3) (gi z 4) (sub z 5 3));rw[hc0]at hW2;have hcl:=HD hc0;replace hW2:=HD hW2;have hcm:(bC X Y C)[6+i]? =some (.pointer (some ⟨(Y.m i).b,0,none⟩)):=by rw[<-rC (Y:=Y) hu];exact tF _ _ _ _ hi
   clear hg lX g1 g3 g4 hc0;go_enter func19,ntmps19;go_upto_region 12 with(first|refine YL ?_|refine YX ?_;intro bx w hI|go_at_call 38;refine KR (jC _ _ i hi) ?_|go_at_call 33;refine KR (zT hi hI aM _ hub) ?_)
   (obtain⟨bz,hbx⟩:=EZ bx;subst hbx)
   (refine ZR [11,13,14] [0,1,2,3,4,5,6,12] [11] [0,1,2,3,4,5,6,7,8,9,10,12,11,13,14] (λw=>Inv (bF X Y C).own w0 w [ib bz 50 z,bF X Y C]) hI ?_;intro wd hI)
   (repeat(first| (refine ZA ?_;go_wp2_with(go_at_call 39;refine KG hI (UB _ X _ _ i hi hu (hI.at_ aM) z hz hvw hrl hok hbk _ _ hcl) ?_;intro Y2 w1 hI);refine gz ?_) | (refine ZB ?_;go_wp2_with(fail);(refine iU (hI.sub SB) ?_)) | (refine ZC ?_;go_wp2_with(refine YL ?_);refine fZ ?_) | ((refine iA RF RF RF RF (hI.sub SB) (by intro w (hI:Inv _ _ w _);first| (with_reducible exact wF (congrArg (Value.int .i64) h1) (LW hI)) |with_reducible exact Xf hI| (with_reducible exact D7 (cb:=X.cb) RF RF hi) | (with_reducible exact fw hI RF aM aQ.out hcm) | (unfold gu;go_simp;with_reducible rfl)) ?_);(simp only[QN]))));refine dN ?_
   go_wp2_with(fail);go_ret;rw[hW2.out];exact⟨Y2,rfl,hI.tl⟩
  ):p:=h
theorem W2{p:Prop}(h:p:=by
  go_enter func44,ntmps44;go_upto_region 2 with(refine YL ?_)
  go_loopg [8,9,10,19] ws.length (λkk s8 s9 s10 s19 wr=>∃(j:Nat),kk=ws.length-j∧j<=ws.length∧s19=.int .i64 j∧Inv (fB d mr wb ⟨S,ws,ar,lf,dn⟩).own w0 wr [blk d 137 [.map (some mr),.slice a ws.length c,.bool ar,.int .i64 lf,.bool dn],Ca mr (Pj ws mask eQ q S j),bD 171 65 (.slice a ws.length c) ws.length (D8 ws)])
  case atStart=>exact⟨0,by omega,by omega,rfl,hI⟩
  case round=>
   clear hI;obtain⟨j,rfl,hj,rfl,hI⟩:=hrel;by_cases hlj:j<ws.length
   ·obtain⟨p,hp⟩:∃p,ws[j]? =some p:=⟨ws[j],List.getElem?_eq_getElem hlj⟩
    obtain⟨Pk,Pm⟩:=JN hw64 hp;have h64:=hw64 p (List.mem_of_getElem? hp);obtain⟨R,hR⟩:∃R,Hid (R=Pj ws mask eQ q S j):=⟨_,HD rfl⟩;have acA:∀k,(R k).length=64:=by rw[hR.out];exact Pn hw64 qg _ _ _ j
    have hnx:=HD (show Pj ws mask eQ q S (j+1)=(if(j:Int)=eQ then oh R p.1 (p.2.take q++(R p.1).drop q)else if bt mask (j%32)then oh R p.1 p.2 else R) by rw[Pj];simp only[hp];rw[<-hR.out]);rw[<-hR.out]at hI;obtain⟨g,rfl⟩:∃g,a=some ⟨g,0,none⟩:=gZ hI a_ OM;clear hp qg;by_cases ht:(j:Int)=eQ
    ·rw[if_pos ht]at hnx
     have hd:((j:Int)==eQ)=true:=by simpa using ht
     clear ht;have ak5:=HD (Po (acA p.1) h64 aiY);have Pp:(p.2.take q++(R p.1).drop q).length=64:=by simp[h64,acA];omega
     have hR1:=acA p.1;go_upto_region 5 with(first|with_reducible refine gK hI RF a_ (bP.out (t:=171)) Pk Pm ?_|(with_reducible refine UC hI ?_;intro bx w hI)|(with_reducible refine HV hI (k:=?_);intro w hI))
     (refine ZR [7,8] [0,1,2,3,4,5,6] [7] [0,1,2,3,4,5,6,7,8] (λw=>Inv (fB d mr wb ⟨S,ws,ar,lf,dn⟩).own w0 w [blk bx 171 (ug p.1 p.2),blk d 137 [.map (some mr),.slice (some ⟨g,0,none⟩) ws.length c,.bool ar,.int .i64 lf,.bool dn],Ca mr R]) hI ?_;intro wd hI)
     (repeat(first| (refine ZA ?_;go_wp2_with((with_reducible refine HY hI (k:=?_);intro w hI));refine gz ?_) | (refine ZB ?_;go_wp2_with((with_reducible refine XC hI ?_;intro bx w hI));(refine iU (hI.sub SB) ?_)) | ((refine iA RF RF RF RF (hI.sub SB) (by intro w (hI:Inv _ _ w _);first|with_reducible exact aiZ hI|with_reducible exact afX hI| (unfold gu;go_simp;with_reducible rfl)) ?_);(simp only[QN]))));refine dN ?_
     go_upto_region 6 with(fail)
     refine ZT [5] 6 hI ?_;intro wd hI
     (repeat(refine ZQ ?_;go_wp2_with((with_reducible refine sG (xs:=(p.2.take q).map bv) (cs:=(R p.1).map bv) (ys:=(p.2.take q).map bv) hI (uQ.out (t:=63)) RF RF (af4 (hI.sat _ aM) h64 aiY) (by rw[List.length_map,List.length_take,h64];have:=hqv.out;omega) jR (by exact(List.take_of_length_le (by rw[List.length_map,List.length_take,h64];have:=hqv.out;omega)).symm) (by rw[List.length_map,acA];have:=hqv.out;omega) (sH _) ?_;intro w hI;rw[ak5.out]at hI));refine ZP ?_))
     go_wp2_with(first|go_at_call 88;refine KE (acB d mr _ _ Pp hI) ?_;intro w1 hI|refine YL ?_|with_reducible refine acC hI (k:=?_));go_roundg (ws.length- (j+1))
     case measure=>omega
     case rel=>exact⟨j+1,by omega,by omega,by go_num,by rw[hnx.out];exact hI.sub SB⟩
    ·rw[if_neg ht]at hnx
     have hd:((j:Int)==eQ)=false:=by simpa using ht
     clear ht;have hbt:=Pq mask j;cases hb:bt mask (j%32)
     ·rw[hb]at hbt hnx
      clear hb;rw[if_neg SI]at hnx;go_wp2_with(first|with_reducible refine gK hI RF a_ (bP.out (t:=171)) Pk Pm ?_|(with_reducible refine UC hI ?_;intro bx w hI)|(with_reducible refine HV hI (k:=?_);intro w hI));go_roundg (ws.length- (j+1))
      case measure=>omega
      case rel=>exact⟨j+1,by omega,by omega,by go_num,by rw[hnx.out];exact hI.sub SB⟩
     ·rw[hb]at hbt hnx
      clear hb;rw[if_pos rfl]at hnx;go_wp2_with(first|with_reducible refine gK hI RF a_ (bP.out (t:=171)) Pk Pm ?_|go_at_call 88;refine KE (XD d mr _ _ h64 hI) ?_;intro w1 hI|refine YL ?_|(with_reducible refine UC hI ?_;intro bx w hI)|with_reducible refine afh hI (k:=?_)|(with_reducible refine HV hI (k:=?_);intro w hI));go_roundg (ws.length- (j+1))
      case measure=>omega
      case rel=>exact⟨j+1,by omega,by omega,by go_num,by rw[hnx.out];exact hI.sub SB⟩
   ·obtain rfl:j=ws.length:=by omega
    go_wp2_with(refine YT ?_;intro w hI;(try simp only[QS]at hI));have h2:Inv _ w0 w (bD 171 65 (.slice none 0 0) 0 (D8 [])::_):=hI.BZ 171 65;exact⟨rfl,_,h_ KF _ _,none,rfl,jy (a:=none) (c:=0) (n:=0) (ws:=[]) rfl rfl (Sg h2)⟩
  ):p:=h
theorem W3{p:Prop}(h:p:=by
  rw[hz9.out]at hI;go_upto_region 4 with(first|refine YS ?_;intro w hI|refine YX ?_;intro bx w hI|refine YL ?_)
  (obtain⟨bv,hbx⟩:=EZ bx;subst hbx)
  go_upto_region 5 with(fail)
  go_loopg [6,34] 5 (λkk s6 s34 wr=>∃(j:Nat) (Y1:RY) (B1:Nat->List (List UInt8)),kk=5-j∧j<=5∧s34=.int .i64 (j:Int)∧Hid (nN P0 G0 S j={S with B:=B1})∧Inv (aj X Y S).own w0 wr [ib bv 30 S.view,ib bm 158 M.nX,aj X Y1 {S with B:=B1}])
  case atStart=>exact⟨0,Y,S.B,rfl,by omega,rfl,HD rfl,hI⟩
  case round=>
   clear hI;obtain⟨j,Y1,B1,rfl,hj,rfl,hB1,hI⟩:=hrel;by_cases GV:j<5
   ·have hs:=HD (yS P0 G0 S j)
    by_cases Si:j=X.f
    ·have hq:((j:Int) != (X.f:Int))=false:=by simp[Si]
     have hs2:Hid (nN P0 G0 S (j+1)={S with B:=B1}):=HD (by rw[hs.out,if_neg (by rw[hP0.out];simp[Si]),hB1.out]);clear hs hB1 Si;go_wp2_with(refine YL ?_);go_roundg (5- (j+1))
     case measure=>omega
     case rel=>exact⟨j+1,Y1,B1,rfl,by omega,by go_num,hs2,hI⟩
    ·have hq:((j:Int) != (X.f:Int))=true:=by simp;omega
     obtain⟨mj,XE⟩:=EQ (aI S.view (j:Int));have hmj:=HD XE;cases mj
     ·have hs2:Hid (nN P0 G0 S (j+1)={S with B:=B1}):=HD (by rw[hs.out,if_neg (by rw[hP0.out];simp[XE]),hB1.out])
      clear hs hB1 XE;go_wp2_with(first|refine YL ?_|go_at_call 14;refine KD hI (b_ _ _ j hvl _ hmj) ?_;intro w1 hI);go_roundg (5- (j+1))
      case measure=>omega
      case rel=>exact⟨j+1,Y1,B1,rfl,by omega,by go_num,hs2,hI⟩
     ·have hs2:Hid (nN P0 G0 S (j+1)=dS X.f {S with B:=B1} j M):=HD (by rw[hs.out,if_pos (by rw[hP0.out];simp[XE,Si]),hB1.out,hG0.out])
      clear hs hB1 XE;go_wp2_with(first|refine YL ?_|go_at_call 14;refine KD hI (b_ _ _ j hvl _ hmj) ?_;intro w1 hI|go_at_call 122;refine KJ hI (uh _ X Y1 {S with B:=B1} hX M hM _ rfl j OM OM (hI.at_ a_)) ?_;intro Y2 B2 w1 hB2 hI);go_roundg (5- (j+1))
      case measure=>omega
      case rel=>exact⟨j+1,Y2,B2,rfl,by omega,by go_num,HD (by rw[hs2.out,hB2.out]),hI⟩
   ·obtain rfl:j=5:=by omega
    cases mb
    ·have hF2:Hid (R={S with B:=B1}):=HD (by rw[<-hR.out,hmb.out,if_neg SI,hB1.out])
     clear hB1;go_upto_region 10 with(fail)
     refine ZT [5] 6 hI ?_;intro wd hI
     (repeat(refine ZQ ?_;go_wp2_with(first|go_at_call 14;refine KD hI (b_ _ _ X.f hvl _ hmb) ?_;intro w1 hI|refine YL ?_);refine ZP ?_))
     go_wp2_with(fail);rw[hF2.out];exact⟨rfl,_,h_ KF _ _,Y1,rfl,hI.sub (.cons _ (.cons _ (.refl _)))⟩
    ·have hF2:Hid (R=G {S with B:=B1}):=HD (by rw[<-hR.out,hmb.out,if_pos rfl,hB1.out])
     have hT1:=hT Y1 B1;clear hB1 hT;go_upto_region 10 with(fail)
     refine ZT [5] 6 hI ?_;intro wd hI
     (repeat(refine ZQ ?_;go_wp2_with(first|go_at_call 14;refine KD hI (b_ _ _ X.f hvl _ hmb) ?_;intro w1 hI|refine YL ?_);refine ZP ?_))
     go_upto_region 11 with(fail)
     refine ZT [7] 8 hI ?_;intro wd hI
     (repeat(refine ZQ ?_;go_wp2_with(first|go_at_call 122;refine KG hI (HZ _ X _ _ hX _ (gQ.len hM) _ hT1 (hI.at_ a_)) ?_;intro Y3 w1 hI|refine YL ?_);refine ZP ?_))
     go_wp2_with(fail);rw[hF2.out];exact⟨rfl,_,h_ KF _ _,Y3,rfl,hI.sub (.cons _ (.cons _ (.refl _)))⟩
  ):p:=h
theorem W4{p:Prop}(h:p:=by
  rcases h1:f_ c0 with _| ⟨x1,c1⟩
  ·replace h1:=HD h1
   have hl1:=ag 0;have hl2:=ag 0;have hl3:=ag 0;have hl4:=ag 0;go_enter func114,ntmps114;go_upto_region 2 with(first|go_at_call 136;refine KC jo hI (dF _ pr ab _ _ _ _ (hI.sat _ aM) (hI.nd aM) h0.out OM qX.out) ?_;intro w1 hI|refine YS ?_;intro w hI|refine YX ?_;intro bx w hI|refine YL ?_)
   rw[hbw.out]at hI;go_upto_region 3 with(refine YL ?_)
   rw[kI.out];go_wp2_with(go_at_call 138;refine KN hI (yT _ pr ab _ (by exact h1.out) (hI.sat _ a_) (hI.nd a_)) ?_;intro D9 w1 hI);exact⟨rfl,.inr ⟨by simp only[om,h0.out,h1.out,Option.bind_some,Option.bind_none],rfl,_,hI.sub SB⟩⟩
  ·replace h1:=HD h1
   rcases h2:bJ dI c1 with _| ⟨x2,c2⟩
   ·replace h2:=HD h2
    have hl1:=ag 0;have hl2:=ag 0;have hl3:=ag 0;have hl4:=ag 0;go_enter func114,ntmps114;go_upto_region 2 with(first|go_at_call 136;refine KC jo hI (dF _ pr ab _ _ _ _ (hI.sat _ aM) (hI.nd aM) h0.out OM qX.out) ?_;intro w1 hI|refine YS ?_;intro w hI|refine YX ?_;intro bx w hI|refine YL ?_)
    rw[hbw.out]at hI;go_upto_region 3 with(refine YL ?_)
    rw[kI.out];go_wp2_with(first|go_at_call 139;refine KN hI (sI.no (iX _ pr ab _ (hI.sat _ a_) (hI.nd a_)) (mQ (by exact h2.out))) ?_;intro D9 w1 hI|go_at_call 138;refine KC qN hI (iq _ pr ab _ (by exact h1.out) (hI.sat _ a_) (hI.nd a_)) ?_;intro w1 hI|refine YS ?_;intro w hI);exact⟨rfl,.inr ⟨by simp only[om,h0.out,h1.out,h2.out,Option.bind_some,Option.bind_none],rfl,_,hI.sub SB⟩⟩
   ·have hl2:(nn x2).length=2:=by rw[dE];exact eF h2
    replace h2:=HD h2;have hl1:=ag 0;have hl3:=ag 0;have hl4:=ag 0;go_enter func114,ntmps114;go_upto_region 2 with(first|go_at_call 136;refine KC jo hI (dF _ pr ab _ _ _ _ (hI.sat _ aM) (hI.nd aM) h0.out OM qX.out) ?_;intro w1 hI|refine YS ?_;intro w hI|refine YX ?_;intro bx w hI|refine YL ?_)
    rw[hbw.out]at hI;go_upto_region 3 with(refine YL ?_)
    rw[kI.out];go_wp2_with(first|go_at_call 138;refine KC qN hI (iq _ pr ab _ (by exact h1.out) (hI.sat _ a_) (hI.nd a_)) ?_;intro w1 hI|go_at_call 139;refine KI hI (sI.yes (iX _ pr ab _ (hI.sat _ a_) (hI.nd a_)) (jd (by exact h2.out))) ?_;intro w1 hI|refine YL ?_|refine YS ?_;intro w hI);simp only[ag,gB,gD,gF,fK,fo,fM,fq,fu,bZ,bO,eP,dH,dO,hl1,hl2,hl3,hl4]at hI;exact bodyPost_ret (aH hI rfl rfl aM (bP.out (t:=158)) (by simp only[eY,ag,hl1,hl2,hl3,hl4])) rfl (.inl ⟨_,_,_,(by simp only[om,h0.out,h1.out,h2.out,Option.bind_some];rfl),(by simp only[eY,ag,hl1,hl2,hl3,hl4]),rfl,hI.sub SB⟩)
  ):p:=h
theorem W5{p:Prop}(h:p:=by go_wp2_with(go_at_call 176;refine KL hI (D_ _ pw _ _ hlB (hI.at_ aC)) ?_;intro ad cd Bc w1 hI);go_ret;exact⟨ad,cd,by(try simp only[List.length_append,Nat.add_assoc]);rfl,LY,hI.sub SB⟩):p:=h
theorem W6{p:Prop}(h:p:=by
  replace h1:=HD h1
  have hl1:=ag 0;have hl2:=ag 0;have hl3:=ag 0;have hl4:=ag 0;go_enter func114,ntmps114;go_upto_region 2 with(first|go_at_call 136;refine KC jo hI (dF _ pr ab _ _ _ _ (hI.sat _ aM) (hI.nd aM) h0.out OM qX.out) ?_;intro w1 hI|refine YS ?_;intro w hI|refine YX ?_;intro bx w hI|refine YL ?_)
  rw[hbw.out]at hI;go_upto_region 3 with(refine YL ?_)
  rw[kI.out];go_wp2_with(go_at_call 136;refine KN hI (kR _ pr ab _ _ _ (hI.sat _ a_) (hI.nd a_) (by exact h1.out) OM) ?_;intro D9 w1 hI);exact⟨rfl,.inr ⟨by simp only[om,h0.out,h1.out,Option.bind_some,Option.bind_none],rfl,_,hI.sub SB⟩⟩
  ):p:=h
theorem W7{p:Prop}(h:p:=by
  rw[<-hB.out];clear hZ dW hB;go_enter func215,ntmps215;go_upto_region 3 with(first|(with_reducible refine aN (z:=.agg #[.slice none 0 0]) (cs:=[.slice none 0 0]) hI ni RF ?_;intro pw w hI;replace hI:=nk hI)|refine YL ?_|refine YX ?_;intro bx w hI)
  rw[kI.out];go_upto_region 6 with(fail)
  (refine ZR [5,6,9] [0,7,8] [5,6] [0,1,2,3,4,7,8,5,6,9] (λw=>Inv [] w0 w [ib bx 158 Z]) hI ?_;intro wd hI)
  (repeat(first|refine ZS ?_|refine ZQ ?_;go_wp2_with(first|go_at_call 172;refine KG hI (JO _ pw _ _ _ (by exact e1.out) (by exact n1) (by exact hl1) (hI.at_ aC)) ?_;intro Bc w1 hI|(with_reducible refine DY hI (k:=?_);intro b2 w hI;replace hI:=Inv.Ea hI)|go_at_call 171;refine KP hI (kW _ pw _ _ _ _ zs [] _ (by intro w h;rw[<-hrow.out];exact jD h) hzl hl0 (hI.at_ aC)) ?_;intro Bc w1 hI;(try simp only[List.nil_append]at hI)|refine YL ?_);refine ZP ?_))
  exact W5
  ):p:=h
theorem W8{p:Prop}(h:p:=by
  replace h2:=HD h2
  have hl1:=ag 0;have hl2:=ag 0;have hl3:=ag 0;have hl4:=ag 0;go_enter func114,ntmps114;go_upto_region 2 with(first|go_at_call 136;refine KC jo hI (dF _ pr ab _ _ _ _ (hI.sat _ aM) (hI.nd aM) h0.out OM qX.out) ?_;intro w1 hI|refine YS ?_;intro w hI|refine YX ?_;intro bx w hI|refine YL ?_)
  rw[hbw.out]at hI;go_upto_region 3 with(refine YL ?_)
  rw[kI.out];go_wp2_with(first|go_at_call 137;refine KN hI (sI.no (wG _ pr ab _ (hI.sat _ a_) (hI.nd a_)) (Eb (by exact h2.out))) ?_;intro D9 w1 hI|go_at_call 136;refine KC qN hI (dZ _ pr ab _ _ _ (hI.sat _ a_) (hI.nd a_) (by exact h1.out) OM) ?_;intro w1 hI|refine YS ?_;intro w hI);exact⟨rfl,.inr ⟨by simp only[om,h0.out,h1.out,h2.out,Option.bind_some,Option.bind_none],rfl,_,hI.sub SB⟩⟩
  ):p:=h
theorem W9{p:Prop}(h:p:=by
  (repeat(first|refine ZS ?_|refine ZQ ?_;go_wp2_with(first|refine YS ?_;intro w hI|go_at_call 90;refine KD hI (C.jE _ _ (by(simp only[List.length_set,ag,az,aY,aF,List.length_append,List.length_cons,List.length_nil]<;>omega))) ?_;intro w1 hI|refine YL ?_);refine ZP ?_))
  simp only[ag,gB,gD,gF,fK,fo,fM,fq,fu,bZ,bO,eP,dH,dO,hl1,hl2,hl3,hl4]at hI|-;go_wp2_with(fail);exact bodyPost_ret (aH hI rfl rfl aM (bP.out (t:=158)) (by simp only[eY,ag,hl1,hl2,hl3,hl4])) rfl (.inl ⟨_,_,_,(by simp only[om,h0.out,h1.out,h2.out,Option.bind_some];rfl),(by simp only[eY,ag,hl1,hl2,hl3,hl4]),rfl,hI.sub SB⟩)
  ):p:=h
theorem W10{p:Prop}(h:p:=by
  replace h1:=HD h1
  have hl1:=ag 0;have hl2:=ag 0;have hl3:=ag 0;have hl4:=ag 0;go_enter func114,ntmps114;go_upto_region 2 with(first|go_at_call 136;refine KC jo hI (dF _ pr ab _ _ _ _ (hI.sat _ aM) (hI.nd aM) h0.out OM qX.out) ?_;intro w1 hI|refine YS ?_;intro w hI|refine YX ?_;intro bx w hI|refine YL ?_)
  rw[hbw.out]at hI;go_upto_region 3 with(refine YL ?_)
  rw[kI.out];go_wp2_with(go_at_call 138;refine KN hI (yT _ pr ab _ (by exact h1.out) (hI.sat _ a_) (hI.nd a_)) ?_;intro D9 w1 hI);exact⟨rfl,.inr ⟨by simp only[om,h0.out,h1.out,Option.bind_some,Option.bind_none],rfl,_,hI.sub SB⟩⟩
  ):p:=h
theorem W11{p:Prop}(h:p:=by
  (repeat(first|refine ZS ?_|refine ZQ ?_;go_wp2_with(first|go_at_call 173;refine KG hI (yU _ pw _ _ _ (by exact e1.out) (by exact n1) (by exact hl1) (hI.at_ aC)) ?_;intro Bc w1 hI|(with_reducible refine DY hI (k:=?_);intro b2 w hI;replace hI:=Inv.Ea hI)|go_at_call 171;refine KP hI (kW _ pw _ _ _ _ zs [] _ (by intro w h;rw[<-hrow.out];exact jD h) hzl hl0 (hI.at_ aC)) ?_;intro Bc w1 hI;(try simp only[List.nil_append]at hI)|refine YL ?_);refine ZP ?_))
  exact W5
  ):p:=h
theorem W12{p:Prop}(h:p:=by go_wp2_with(first|(with_reducible refine dh hI RF MM (by first|with_reducible exact iB|with_reducible exact yz) SI ?_);simp only[List.drop_succ_cons,List.drop_zero,List.take_succ_cons,List.take_zero]|(with_reducible refine aR hI RF RF jR (by with_reducible exact yz.size) RF SI (by simp[Value.oneCell']) ?_);intro w hI;simp only[splice,List.drop_succ_cons,List.drop_zero,List.take_succ_cons,List.take_zero,List.length_cons,List.length_nil,Nat.zero_add,Nat.reduceAdd,List.nil_append,List.cons_append,List.append_nil,List.drop_nil]at hI|(with_reducible refine bX hI RF ?_);intro bx w hI|(with_reducible refine aN hI (by first|with_reducible exact Pg|with_reducible exact Ph) RF ?_);intro bx w hI|go_at_call 160;refine KD hI (wH _ _ _ _ _ _ _ _ _ _ _ _) ?_;intro w1 hI);exact bodyPost_ret (qC hI rfl rfl aC (by(with_reducible exact yz)) (by rfl)) rfl ⟨rfl,hI.below⟩):p:=h
theorem XF{p:Prop}(h:p:=by exact bodyPost_ret (aH hI rfl rfl aC yx (ag 174)) rfl ⟨rfl,hI.below⟩):p:=h
theorem W14{p:Prop}(h:p:=by
  go_upto_region 4 with(fail)
  refine ZT [12,13] 14 hI ?_;intro wd hI
  (repeat(refine ZQ ?_;go_wp2_with(first|refine YS ?_;intro w hI|refine YL ?_);refine ZP ?_))
  go_wp2_with(go_at_call 79;refine KJ hI (zU _ X _ _ hX (hI.at_ a_) _ hvw RF) ?_;intro Y2 S2 w1 hS2 hI);rw[hF.out];have e2:=hS2.out;rw[show bits BinOp.or IntKind.i64 (gi S.told i) (2^k)=XG (gi S.told i) k from rfl]at e2;rw[e2];exact⟨rfl,_,h_ KF _ _,Y2,rfl,hI.sub (.cons _ (.cons _ (.refl _)))⟩
  ):p:=h
theorem W15{p:Prop}(h:p:=by
  replace h2:=HD h2
  have hl1:=ag 0;have hl2:=ag 0;have hl3:=ag 0;have hl4:=ag 0;go_enter func101,ntmps101;go_upto_region 2 with(first|go_at_call 136;refine KC jo hI (dF _ pr ab _ _ _ _ (hI.sat _ aM) (hI.nd aM) h0.out OM qX.out) ?_;intro w1 hI|refine YS ?_;intro w hI|refine YX ?_;intro bx w hI|refine YL ?_)
  rw[hbw.out]at hI;go_upto_region 3 with(refine YL ?_)
  rw[kI.out];go_wp2_with(first|go_at_call 139;refine KN hI (sI.no (iX _ pr ab _ (hI.sat _ a_) (hI.nd a_)) (mQ (by exact h2.out))) ?_;intro D9 w1 hI|go_at_call 138;refine KC qN hI (iq _ pr ab _ (by exact h1.out) (hI.sat _ a_) (hI.nd a_)) ?_;intro w1 hI|refine YS ?_;intro w hI);exact⟨rfl,.inr ⟨by simp only[si,h0.out,h1.out,h2.out,Option.bind_some,Option.bind_none],rfl,_,hI.sub SB⟩⟩
  ):p:=h
theorem W16{p:Prop}(h:p:=by
  replace h2:=HD h2
  have hl1:=ag 0;have hl2:=ag 0;have hl3:=ag 0;have hl4:=ag 0;go_enter func114,ntmps114;go_upto_region 2 with(first|go_at_call 136;refine KC jo hI (dF _ pr ab _ _ _ _ (hI.sat _ aM) (hI.nd aM) h0.out OM qX.out) ?_;intro w1 hI|refine YS ?_;intro w hI|refine YX ?_;intro bx w hI|refine YL ?_)
  rw[hbw.out]at hI;go_upto_region 3 with(refine YL ?_)
  rw[kI.out];go_wp2_with(first|go_at_call 139;refine KN hI (sI.no (iX _ pr ab _ (hI.sat _ a_) (hI.nd a_)) (mQ (by exact h2.out))) ?_;intro D9 w1 hI|go_at_call 138;refine KC qN hI (iq _ pr ab _ (by exact h1.out) (hI.sat _ a_) (hI.nd a_)) ?_;intro w1 hI|refine YS ?_;intro w hI);exact⟨rfl,.inr ⟨by simp only[om,h0.out,h1.out,h2.out,Option.bind_some,Option.bind_none],rfl,_,hI.sub SB⟩⟩
  ):p:=h
theorem W17{p:Prop}(h:p:=by
  go_enter func68,ntmps68;go_upto_region 1 with(refine YX ?_;intro bx w hI)
  refine ZT [8,9] 10 hI ?_;intro wd hI
  (repeat(refine ZQ ?_;go_wp2_with(first|go_at_call 14;refine KD hI (b_ _ _ X.f hvl _ hmb) ?_;intro w1 hI|refine YL ?_);refine ZP ?_))
  go_wp2_with(first|refine YL ?_|refine YS ?_;intro w hI);exact bodyPost_ret (jA hI rfl rfl aC (bP.out (t:=41)) hn) rfl ⟨rfl,hI.sub SB⟩
  ):p:=h
theorem W18{p:Prop}(h:p:=by go_wp2_with(first|refine YS ?_;intro w hI|refine YL ?_);exact bodyPost_ret (jA hI rfl rfl aM (bP.out (t:=41)) hn) rfl ⟨rfl,hI.sub SB⟩):p:=h
theorem W19{p:Prop}(h:p:=by
  go_upto_region 3 with(first|(with_reducible refine aN (z:=.agg #[.slice none 0 0]) (cs:=[.slice none 0 0]) hI ni RF ?_;intro pw w hI;replace hI:=nk hI)|refine YL ?_|refine YX ?_;intro bx w hI)
  rw[kI.out];go_wp2_with(first|go_at_call 176;refine KL hI (D_ _ pw _ _ hlB (hI.at_ aC)) ?_;intro ad cd Bc w1 hI|(with_reducible refine DY hI (k:=?_);intro b2 w hI;replace hI:=Inv.Ea hI)|go_at_call 171;refine KP hI (kW _ pw _ _ _ _ zs [] _ (by intro w h;rw[<-hrow.out];exact jD h) hzl hl0 (hI.at_ aC)) ?_;intro Bc w1 hI;(try simp only[List.nil_append]at hI)|refine YL ?_);go_ret;exact⟨ad,cd,by(try simp only[List.length_append,Nat.add_assoc]);rfl,LY,hI.sub SB⟩
  ):p:=h
theorem W20{p:Prop}(h:p:=by have hI:=Inv.start w0;unfold lY;go_enter func84,ntmps84;go_wp2_with(first|refine YL ?_|refine YS ?_;intro w hI|refine YX ?_;intro bx w hI|go_at_call 34;refine KR (eT _ _) ?_|go_at_call 14;refine KD hI (fO _ v _ hv) ?_;intro w1 hI);exact bodyPost_ret (aH hI rfl rfl aC n_ DC) rfl ⟨rfl,hI.below⟩):p:=h
theorem W21{p:Prop}(h:p:=by
  replace h1:=HD h1
  have hl1:=ag 0;have hl2:=ag 0;have hl3:=ag 0;have hl4:=ag 0;go_enter func101,ntmps101;go_upto_region 2 with(first|go_at_call 136;refine KC jo hI (dF _ pr ab _ _ _ _ (hI.sat _ aM) (hI.nd aM) h0.out OM qX.out) ?_;intro w1 hI|refine YS ?_;intro w hI|refine YX ?_;intro bx w hI|refine YL ?_)
  rw[hbw.out]at hI;go_upto_region 3 with(refine YL ?_)
  rw[kI.out];go_wp2_with(go_at_call 136;refine KN hI (kR _ pr ab _ _ _ (hI.sat _ a_) (hI.nd a_) (by exact h1.out) OM) ?_;intro D9 w1 hI);exact⟨rfl,.inr ⟨by simp only[si,h0.out,h1.out,Option.bind_some,Option.bind_none],rfl,_,hI.sub SB⟩⟩
  ):p:=h
theorem W22{p:Prop}(h:p:=by obtain⟨W,hW⟩:=EH (Ec C z i);rw[hW.out];go_enter func19,ntmps19;go_wp2_with(first|refine YL ?_|refine YX ?_;intro bx w hI|go_at_call 38;refine KR (jC _ _ i hi) ?_|go_at_call 40;refine KG hI (ai0 _ X _ _ z hz (hI.at_ aM) i hi h1 hN.out hgood.out) ?_;intro Y2 w1 hI);go_ret;rw[<-hW.out];exact⟨Y2,rfl,hI.tl⟩):p:=h
theorem W23{p:Prop}(h:p:=by
  rw[hF.out];go_enter func66,ntmps66;go_upto_region 12 with(first|refine YL ?_|refine YX ?_;intro bx w hI)
  (refine ZR [12,16,17,18,19,20] [1,2,5,6,7,8] [12,16] [0,1,2,3,4,5,6,7,8,9,10,11,12,13,14,15,16,17,18,19,20] (λw=>Inv (two (rb f b l vb ra rc S) Z).own w0 w [ib bx 143 z]) hI ?_;intro wd hI)
  (repeat(first|refine ZS ?_|refine ZQ ?_;go_wp2_with(first|refine YS ?_;intro w hI|refine YL ?_);refine ZP ?_))
  go_upto_region 13 with(fail)
  refine ZT [9,10,11] 12 hI ?_;intro wd hI
  (repeat(refine ZQ ?_;go_wp2_with(first|refine YS ?_;intro w hI|refine YL ?_);refine ZP ?_))
  go_wp2_with(fail)
  (try rw[hs]at hI)
  exact⟨rfl,_,h_ KF _ _,rfl,hI.tl⟩
  ):p:=h
theorem W24{p:Prop}(h:p:=by
  replace h1:=HD h1
  have hl1:=ag 0;have hl2:=ag 0;have hl3:=ag 0;have hl4:=ag 0;go_enter func101,ntmps101;go_upto_region 2 with(first|go_at_call 136;refine KC jo hI (dF _ pr ab _ _ _ _ (hI.sat _ aM) (hI.nd aM) h0.out OM qX.out) ?_;intro w1 hI|refine YS ?_;intro w hI|refine YX ?_;intro bx w hI|refine YL ?_)
  rw[hbw.out]at hI;go_upto_region 3 with(refine YL ?_)
  rw[kI.out];go_wp2_with(go_at_call 138;refine KN hI (yT _ pr ab _ (by exact h1.out) (hI.sat _ a_) (hI.nd a_)) ?_;intro D9 w1 hI);exact⟨rfl,.inr ⟨by simp only[si,h0.out,h1.out,Option.bind_some,Option.bind_none],rfl,_,hI.sub SB⟩⟩
  ):p:=h
theorem W25{p:Prop}(h:p:=by
  (repeat(first|refine ZS ?_|refine ZQ ?_;go_wp2_with(first|go_at_call 174;refine KG hI (Ed _ pw _ _ _ (by exact e2.out) (by exact n2) (by exact hl2) (hI.at_ aC)) ?_;intro Bc w1 hI|(with_reducible refine DY hI (k:=?_);intro b2 w hI;replace hI:=Inv.Ea hI)|go_at_call 171;refine KP hI (kW _ pw _ _ _ _ zs [] _ (by intro w h;rw[<-hrow.out];exact jD h) hzl hl0 (hI.at_ aC)) ?_;intro Bc w1 hI;(try simp only[List.nil_append]at hI)|go_at_call 173;refine KG hI (yU _ pw _ _ _ (by exact e1.out) (by exact n1) (by exact hl1) (hI.at_ aC)) ?_;intro Bc w1 hI|refine YL ?_);refine ZP ?_))
  exact W5
  ):p:=h
theorem W26{p:Prop}(h:p:=by
  go_enter func116,ntmps116;go_upto_region 2 with(first|refine YX ?_;intro bx w hI|refine YL ?_|go_at_call 121;refine KO hI (yA _ X.f uR) ?_;intro g cw w1 hI)
  (refine ZR [0,1,2,3,4,5,13,14,15,18,19,20] [] [] [0,1,2,3,4,5,6,7,8,9,10,11,12,13,14,15,16,17,18,19,20] (λw=>Inv (aj X Y S).own w0 w [bD 3 1 (.slice (some ⟨g,0,none⟩) 2 cw) 2 ((eU X.f).map iN),ib bx 158 z,aj X Y S]) hI ?_;intro wd hI)
  (repeat(first|refine ZS ?_|refine ZQ ?_;go_wp2_with(refine YL ?_);refine ZP ?_))
  go_wp2_with(fail);rw[hF.out];exact⟨rfl,_,h_ KF _ _,Y,rfl,hI.sub (.cons _ (.cons _ (.refl _)))⟩
  ):p:=h
theorem W27{p:Prop}(h:p:=by
  (repeat(first|refine ZS ?_|refine ZQ ?_;go_wp2_with(first|refine YT ?_;intro w hI;(try simp only[QS]at hI)|(with_reducible refine wI hI RF (by rw[JP,hpl]) (k:=?_);intro b2 w hI)|(with_reducible refine aA (q:=1) hI RF RF (uQ.out (t:=135)) (by intro r';exact aU.there (aU.there (aU.there (aU.there aU.here)))) (hI.rd aC) (by rw[JP,hpl]) (LZ _ _) MX OM ?_;intro a' c' w hI)|with_reducible refine ai1 hI (k:=?_));refine ZP ?_))
  go_wp2_with(fail);go_ret;rw[<-acD]at hI;exact⟨_,rfl,(jy (n:=ws.length+1) rfl SI (acE hI)).eX⟩
  ):p:=h
theorem W28{p:Prop}(h:p:=by
  have:∀i,∃zs:List Int,i<len->(zs.length=k∧(∀j,-9223372036854775808<=gi zs j∧gi zs j<=9223372036854775807)∧∃b off,a=some ⟨b,off,none⟩∧ng w b (off+i*k) (zs.map (Value.int .i64))):=by
   intro i;by_cases hi:i<len
   ·obtain⟨ha,b,off,h1,h2⟩:=h.row i hi
    obtain⟨zs,hz,hl,hwf⟩:=ru.ints ha;refine⟨zs,λ_=>⟨hl,ai2 hwf,b,off,h1,?_⟩⟩;rw[show zs.map (Value.int .i64)=zs.map iv from rfl,<-hz]
    grind
   ·exact⟨[],λh=>absurd h hi⟩
  exact⟨λi=>(this i).choose,⟨Nat.le_trans h.le h.reach,λi hi=>(this i).choose_spec hi⟩⟩
  ):p:=h
theorem W29{p:Prop}(h:p:=by have hI:=Inv.start w0;unfold lY;go_enter func84,ntmps84;go_wp2_with(first|refine YL ?_|refine YS ?_;intro w hI|refine YX ?_;intro bx w hI|go_at_call 34;refine KR (eT _ _) ?_);exact bodyPost_ret (aH hI rfl rfl aC n_ DC) rfl ⟨rfl,hI.below⟩):p:=h
theorem W30{p:Prop}(h:p:=by
  go_upto_region 21 with(fail)
  (refine ZR [0,1,2,3,13,16,17] [14,15] [13] [0,1,2,3,4,5,6,7,8,9,10,11,12,14,15,13,16,17] (λw=>Inv (aj X Y S).own w0 w [ib b1 41 g,ib b2 41 (au 174),ib b3 50 z,aj X Y S]) hI ?_;intro wd hI)
  (repeat(first|refine ZS ?_|refine ZQ ?_;go_wp2_with(first|refine YL ?_|go_at_call 107;refine KE (L6 hI nz hbk _ _ XH) ?_;intro w1 hI);refine ZP ?_))
  go_wp2_with(first|refine YL ?_|refine YS ?_;intro w hI);exact bodyPost_ret (jA hI rfl rfl aM (bP.out (t:=41)) hgl) rfl ⟨rfl,hI.sub SB⟩
  ):p:=h
theorem W31{p:Prop}(h:p:=by exact bodyPost_ret (aH hI rfl rfl aM (bP.out (t:=143)) (by simp only[ed,ag,hl1,hl2,hl3,hl4])) rfl (.inl ⟨_,_,_,(by simp only[si,h0.out,h1.out,Option.bind_some];rfl),(by simp only[ed,ag,hl1,hl2,hl3,hl4]),rfl,hI.sub SB⟩)):p:=h
theorem OV{p:Prop}(h:p:=by exact⟨rfl,_,h_ KF _ _,Y2,rfl,hI.tl⟩):p:=h
theorem W33{p:Prop}(h:p:=by
  (repeat(first|refine ZS ?_|refine ZQ ?_;go_wp2_with(first|go_at_call 175;refine KG hI (L8 _ pw _ _ _ (by exact e1.out) (by exact n1) (by exact hl1) (hI.at_ aC)) ?_;intro Bc w1 hI|(with_reducible refine Pb hI (k:=?_);intro b2 w hI;replace hI:=Inv.Ea hI)|go_at_call 171;refine KP hI (kW _ pw _ _ _ _ zs [] _ (by intro w h;rw[<-hrow.out];exact jD h) hzl hl0 (hI.at_ aC)) ?_;intro Bc w1 hI;(try simp only[List.nil_append]at hI)|refine YL ?_);refine ZP ?_))
  exact W5
  ):p:=h
theorem W34{p:Prop}(h:p:=by exact⟨rfl,.inr ⟨by rw[wJ,hr.out];rfl,rfl,_,hI.sub SB⟩⟩):p:=h
theorem W35{p:Prop}(h:p:=by
  rw[<-hB.out];clear hZ dW hB;go_enter func215,ntmps215;go_upto_region 3 with(first|(with_reducible refine aN (z:=.agg #[.slice none 0 0]) (cs:=[.slice none 0 0]) hI ni RF ?_;intro pw w hI;replace hI:=nk hI)|refine YL ?_|refine YX ?_;intro bx w hI)
  rw[kI.out];go_upto_region 11 with(fail)
  (refine ZR [5,6,9] [0,7,8] [5,6] [0,1,2,3,4,7,8,5,6,9] (λw=>Inv [] w0 w [ib bx 158 Z]) hI ?_;intro wd hI)
  exact W11
  ):p:=h
theorem W36{p:Prop}(h:p:=by subst he;exact⟨_,rfl,_,_,_,[],_,[],hW',trodAll_mk1 (shut_bool underlying4 _),(trodAll_cons_mk (Below.trod XI KF (of_decide_eq_true KF) k0 bel lt0) trodAll_mk0),rfl,bel.frame _,λh=>by cases h⟩):p:=h
theorem W37{p:Prop}(h:p:=by
  go_upto_region 21 with(fail)
  (refine ZR [0,1,2,3,13,16,17] [14,15] [13] [0,1,2,3,4,5,6,7,8,9,10,11,12,14,15,13,16,17] (λw=>Inv (aj X Y S).own w0 w [ib b1 41 g,ib b2 41 (au 174),ib b3 50 z,aj X Y S]) hI ?_;intro wd hI)
  (repeat(first|refine ZS ?_|refine ZQ ?_;go_wp2_with(first|refine YL ?_|go_at_call 107;refine KE (L6 hI nz hbk _ _ XH) ?_;intro w1 hI);refine ZP ?_))
  exact W18
  ):p:=h
theorem W38{p:Prop}(h:p:=by go_wp2_with(first|go_at_call 8;refine KC jR hI (Dc _ g og (hI.at_ aC)) ?_;intro w1 hI|go_at_call 9;refine KD hI (De _ a len c) ?_;intro w1 hI);go_ret;exact⟨rfl,u6 hg hI aC⟩):p:=h
theorem W39{p:Prop}(h:p:=by
  have hmn:=ai3;go_enter func88,ntmps88;go_upto_region 3 with(first|refine YL ?_|(with_reducible refine Sl hI (k:=?_);intro bx w hI))
  refine ZT [6] 7 hI ?_;intro wd hI
  (repeat(refine ZQ ?_;go_wp2_with(first|(with_reducible refine ak6 hI (k:=?_);intro w hI)|refine YL ?_|with_reducible refine acC hI (k:=?_));refine ZP ?_))
  exact⟨rfl,_,h_ KF _ _,rfl,hI.tl⟩
  ):p:=h
theorem W40{p:Prop}(h:p:=by exact⟨rfl,_,h_ KF _ _,Y,rfl,hI.tl⟩):p:=h
theorem W41{p:Prop}(h:p:=by
  go_enter func120,ntmps120
  go_upto_region 1 with(refine YX ?_;intro bx w hI)
  refine ZT [7] 8 hI ?_;intro wd hI
  (repeat(refine ZQ ?_;go_wp2_with(refine YL ?_);refine ZP ?_))
  go_wp2_with(first|refine YL ?_|go_at_call 122;refine KJ hI (uh _ X Y S hX (.view S.view) hMv _ (XJ hvl) k hk5 XK (hI.at_ aM)) ?_;intro Y2 B2 w1 hB2 hI);rw[hB2.out];exact OV
  ):p:=h
theorem W42{p:Prop}(h:p:=by
  rw[fF _ _ _ _ _ OM];by_cases he:j=key
  ·subst he
   rw[zV];have hg:gi x (1+j*7+f)=gi (sub x (1+j*7) 7) f:=(gy x _ 7 f hf).symm;rw[hg];refine UD _ f n (by grind[az]) hf hn hcj ?_;have h2:sub (sub x (1+j*7) 7) 2 5=sub x (1+j*7+2) 5:=by
    grind[sub,List.drop_take,List.drop_drop]
   rw[h2,<-hg];exact hc
  grind[C.fF]
  ):p:=h
theorem W43{p:Prop}(h:p:=by
  go_enter func33,ntmps33
  go_wp2_with(first|refine YL ?_|with_reducible refine av (fw hI RF hm aQ.out hcm) ?_|with_reducible refine av (fw hI RF hm aQ.out hcd) ?_|go_at_call 38;refine KR (jC _ _ i hi) ?_|go_at_call 61;refine KR (H5 _ _ _ _ _ (acF hi hI hm)) ?_;(rw[hdn.out]));go_ret;exact⟨rfl,rfl⟩
  ):p:=h
theorem W44{p:Prop}(h:p:=by
  rw[hF.out];go_enter func66,ntmps66;go_upto_region 10 with(first|refine YL ?_|refine YX ?_;intro bx w hI|refine YS ?_;intro w hI)
  refine ZT [9,10,11] 12 hI ?_;intro wd hI
  (repeat(refine ZQ ?_;go_wp2_with(first|refine YS ?_;intro w hI|refine YL ?_);refine ZP ?_))
  go_wp2_with(fail)
  (try rw[hs]at hI)
  exact⟨rfl,_,h_ KF _ _,rfl,hI.tl⟩
  ):p:=h
theorem W45{p:Prop}(h:p:=by go_enter func142,ntmps142;go_wp2_with(first|with_reducible refine YL ?_|(with_reducible refine YX ?_);intro bx w hI);go_ret;exact⟨by rw[hf.out];rfl,hI.below⟩):p:=h
theorem W46{p:Prop}(h:p:=by go_wp2_with(first|go_at_call 136;refine KC qN hI (dZ _ pr ab _ _ _ (hI.sat _ a_) (hI.nd a_) (by exact hk1.out) OM) ?_;intro w1 hI|go_at_call 136;refine KN hI (kR _ pr ab _ _ _ (hI.sat _ a_) (hI.nd a_) (by exact hk2.out) OM) ?_;intro cs' w1 hI|refine YS ?_;intro w hI|refine YX ?_;intro bx w hI);exact W34):p:=h
theorem W47{p:Prop}(h:p:=by go_enter func95,ntmps95;go_wp2_with(refine YL ?_);go_ret;exact⟨_,rfl,(jy h1 rfl hI).eX⟩):p:=h
theorem W48{p:Prop}(h:p:=by exact bodyPost_ret (aH hI rfl rfl nz (bP.out (t:=143)) hn0) rfl ⟨by rw[hD.out];rfl,hI.sub (.cons _ (.cons _ (.cons _ (.cons _ (.refl _)))))⟩):p:=h
theorem W49{p:Prop}(h:p:=by exact bodyPost_ret (aH hI rfl rfl nz (bP.out (t:=158)) hn0) rfl ⟨by rw[hD.out];rfl,hI.sub (.cons _ (.cons _ (.cons _ (.cons _ (.refl _)))))⟩):p:=h
theorem W50{p:Prop}(h:p:=by simp only[List.set_cons_zero]at hI;generalize hmm:eB (gi z2 14) (gi (sub z2 0 7) 1)=mm at*;replace hmm:=HD hmm;have hs:gb [mm] 0=mm:=rfl;go_wp2_with(with_reducible refine bV hI RF nz (by exact uZ) (by rw[hzl]) SI hs ?_);go_ret;rw[hgz.out,hmm.out];exact⟨rfl,hI.end_,hI.mbk nz⟩):p:=h
theorem W51{p:Prop}(h:p:=by go_wp2_with(first|go_at_call 138;refine KC qN hI (iq _ pr ab _ hk1.out (hI.sat _ a_) (hI.nd a_)) ?_;intro w1 hI|go_at_call 136;refine KN hI (kR _ pr ab _ _ _ (hI.sat _ a_) (hI.nd a_) (by exact hk2.out) OM) ?_;intro cs' w1 hI|refine YS ?_;intro w hI|refine YX ?_;intro bx w hI);exact W34):p:=h
theorem W52{p:Prop}(h:p:=by
  have hr:Hid (oq key n=false):=HD (by simp[oq];omega)
  go_enter func144,ntmps144
  go_wp2
  go_ret;exact⟨fD hr.out.symm,rfl⟩
  ):p:=h
theorem W53{p:Prop}(h:p:=by exact bodyPost_ret (aH hI rfl rfl aM (bP.out (t:=143)) (by simp only[ed,ag,hl1,hl2,hl3,hl4])) rfl (.inl ⟨_,_,_,(by simp only[si,h0.out,h1.out,h2.out,Option.bind_some];rfl),(by simp only[ed,ag,hl1,hl2,hl3,hl4]),rfl,hI.sub SB⟩)):p:=h
theorem W54{p:Prop}(h:p:=by exact bodyPost_ret (aH hI rfl rfl aM (bP.out (t:=158)) (by simp only[eY,ag,hl1,hl2,hl3,hl4])) rfl (.inl ⟨_,_,_,(by simp only[om,h0.out,h1.out,Option.bind_some];rfl),(by simp only[eY,ag,hl1,hl2,hl3,hl4]),rfl,hI.sub SB⟩)):p:=h
theorem W55{p:Prop}(h:p:=by go_wp2_with(fail);go_ret;exact⟨rfl,hI.tl⟩):p:=h
theorem W56{p:Prop}(h:p:=by
  go_wp2
  go_ret;exact⟨fD (by rw[show aL n=false from by simp[aL];omega]),rfl⟩
  ):p:=h
theorem W57{p:Prop}(h:p:=by unfold jq;exact bodyPost_ret (aH hI rfl rfl aC yx (by simp only[List.length_set];omega)) rfl ⟨rfl,hI.below⟩):p:=h
theorem W58{p:Prop}(h:p:=by
  by_cases h:0<=n
  ·go_enter func161,ntmps161
   go_wp2
   go_ret;exact⟨fD (by simp[ic,h]),rfl⟩
  ·go_enter func161,ntmps161
   go_wp2
   go_ret;exact⟨fD (by rw[show ic n=false from by simp[ic];omega]),rfl⟩
  ):p:=h
theorem W59{p:Prop}(h:p:=by
  obtain⟨⟨x1,c1⟩,h1,h⟩:=Option.bind_eq_some_iff.1 h
  obtain⟨⟨x2,c2⟩,h2,h⟩:=Option.bind_eq_some_iff.1 h;obtain⟨⟨rfl,_⟩,_⟩:=h;exact eY (ag _) (by rw[dE];exact eF h2) (ag _) (ag _) (ag _)
  ):p:=h
theorem W60{p:Prop}(h:p:=by simp only[Option.bind_some];rw[h2];simp only[Option.bind_some];rw[Df h.2.2.2];unfold pE;rw[if_pos ⟨h.2.1,rfl⟩]):p:=h
theorem W61{p:Prop}(h:p:=by
  have hv:(zs.map (Value.int .i64))[off]? =some (.int .i64 (gi zs off)):=by simp[hl,gi]
  unfold gu execOp;simp only[hx,ia,Instr.field,Sem.run_bind,run_underlying hu,Result.andThen_ok,hf,ht,ho,asAgg,Sem.run_pure,uX hT hv]
  ):p:=h
theorem W62{p:Prop}(h:p:=by
  (repeat(first|refine ZS ?_|refine ZQ ?_;go_wp2_with(refine YL ?_);refine ZP ?_))
  go_wp2_with(fail);rw[hF.out];exact W40
  ):p:=h
theorem W63{p:Prop}(h:p:=by
  refine bQ ?_;intro bx w hI;(simp only[QN]);(repeat(refine ZQ ?_;go_wp2_with(refine YS ?_;intro w hI);refine ZP ?_))
  go_wp2_with(fail);rw[hF2.out];exact⟨rfl,_,h_ KF _ _,Y,rfl,hI.sub (.cons _ (.cons _ (.refl _)))⟩
  ):p:=h
theorem W64{p:Prop}(h:p:=by go_enter func79,ntmps79;go_wp2_with(first|refine YL ?_|go_at_call 123;refine KK hI (JQ _ X.f X.b X.l Y.vb Y.rc Y.ra S _ L hL.out n hn.out hvl hvw (hI.at_ aC)) ?_;intro ad cd w1 hI);rw[hF2.out];exact W40):p:=h
theorem W65{p:Prop}(h:p:=by rw[hF.out];clear hF hg;go_enter func95,ntmps95;go_wp2_with(first|refine YL ?_|refine YT ?_;intro w hI;(try simp only[QS]at hI));go_ret;exact⟨_,rfl,(jy h1 rfl hI).eX⟩):p:=h
theorem W66{p:Prop}(h:p:=by go_wp2_with(first|refine YL ?_|go_at_call 108;refine KG hI (ou _ X _ _ x0 hx0 _ OW.out _ _ _ _ hP (hI.at_ aM)) ?_;intro Yp w1 hI);rw[tY.out];exact⟨rfl,_,h_ KF _ _,_,rfl,hI.tl⟩):p:=h
theorem W67{p:Prop}(h:p:=by simp only[ag,kz,kC,i_,ja,jM,jN,g_,fJ,jb,jc,hl1,hl2,hl3,hl4]at hI|-;go_wp2_with(fail);exact W31):p:=h
theorem W68{p:Prop}(h:p:=by go_wp2_with(first|go_at_call 136;refine KN hI (kR _ pr ab _ _ _ (hI.sat _ a_) (hI.nd a_) (by exact hk1.out) OM) ?_;intro cs' w1 hI|refine YX ?_;intro bx w hI);exact W34):p:=h
theorem W69{p:Prop}(h:p:=by
  go_enter func17,ntmps17;go_wp2_with(first|refine YL ?_|refine YX ?_;intro bx w hI|go_at_call 34;refine KR (eT _ _) ?_)
  go_ret2
  exact⟨rfl,hI.below⟩
  ):p:=h
theorem W70{p:Prop}(h:p:=by
  go_upto_region 3 with(fail)
  refine ZT [7,8] 9 hI ?_;intro wd hI
  (repeat(refine ZQ ?_;go_wp2_with(first|refine YS ?_;intro w hI|refine YL ?_);refine ZP ?_))
  exact W14
  ):p:=h
theorem W71{p:Prop}(h:p:=by simp only[h1,Option.bind_some,(xC he _).2,b2,Ee,(xC he []).1,(JR hb).1]):p:=h
theorem W72{p:Prop}(h:p:=by obtain⟨rfl,rfl,_⟩:=he;unfold gu execOp;simp[hx,Instr.loadAt,Instr.sureAddr,Sem.run_bind,Sem.run_pure,Result.andThen_ok,loadVar,hT.isAgg,load,Sem.run,hcell]):p:=h
theorem W73{p:Prop}(h:p:=by rw[hm.out];go_enter func42,ntmps42;go_wp2_with(refine YT ?_;intro w hI;(try simp only[QS]at hI));exact⟨rfl,_,h_ KF _ _,rfl,jy h1 rfl hI⟩):p:=h
theorem W74{p:Prop}(h:p:=by go_wp2_with(first|go_at_call 138;refine KN hI (yT _ pr ab _ hk1.out (hI.sat _ a_) (hI.nd a_)) ?_;intro cs' w1 hI|refine YX ?_;intro bx w hI);exact W34):p:=h
theorem W75{p:Prop}(h:p:=by
  go_wp2
  go_ret;exact⟨fD (by simp[aL,h]),rfl⟩
  ):p:=h
theorem W76{p:Prop}(h:p:=by go_enter func38,ntmps38;go_wp2_with fail;go_ret;exact⟨rfl,rfl⟩):p:=h
theorem W77{p:Prop}(h:p:=by go_wp2_with(first|refine YS ?_;intro w hI|refine YX ?_;intro bx w hI|refine YL ?_|go_at_call 144;refine KR (nO _ _ _) ?_);exact XF):p:=h
theorem W78{p:Prop}(h:p:=by rintro e w' ⟨Y',rfl,hJ⟩;exact⟨_,rfl,UE hi hu (h.on hJ jR)⟩):p:=h
theorem W79{p:Prop}(h:p:=by
  have hs:w.ownsRow 0 e size (.slice a' n' c) n xs:=h.sat _ hm;rcases hs.2 with⟨hv,rfl⟩ | ⟨g,cap,cur,hv,_,_,hc,_⟩
  all_goals grind
  ):p:=h
theorem W80{p:Prop}(h:p:=by exact⟨rfl,_,h_ KF _ _,Y2,rfl,hI.sub (.cons _ (.cons _ (.refl _)))⟩):p:=h
theorem W81{p:Prop}(h:p:=by go_wp2_with(fail);go_ret;exact⟨rfl,hI.sub SB⟩):p:=h
theorem W82{p:Prop}(h:p:=by
  have h:(A.ui (uk n (aP R.length) p (jr R p))).length=63:=by grind[A.lD,Ef,JS]
  simp_all[sJ]
  ):p:=h
theorem W83{p:Prop}(h:p:=by
  simp only[bJ]at h;rcases h1:iI l bs with _| ⟨k,c⟩
  ·grind
  ·rcases h2:bJ ls c with _| ⟨ks,ds⟩
   all_goals grind
  ):p:=h
theorem W84{p:Prop}(h:p:=by exact⟨rfl,.inr ⟨by simp only[om,h0.out,h1.out,h2.out,h3.out,Option.bind_some,Option.bind_none],rfl,_,hI.sub SB⟩⟩):p:=h
theorem W85{p:Prop}(h:p:=by go_ret;exact⟨fD hf.out.symm,hI.below⟩):p:=h
theorem W86{p:Prop}(h:p:=by exact bodyPost_ret (qC hI rfl rfl aC (by(with_reducible exact yz)) (by rfl)) rfl ⟨rfl,hI.below⟩):p:=h
theorem W87{p:Prop}(h:p:=by
  unfold gu execOp;simp only[hx,hy,Sem.run_bind,Ps JU JV h1 j false,Result.andThen_ok]
  simp_all
  ):p:=h
theorem W88{p:Prop}(h:p:=by simp only[h1,Option.bind_some,(xC he _).2,(JR hb).2,c2,Ee,(xC he []).1,(JR hb).1,(XL hc).1]):p:=h
theorem W89{p:Prop}(h:p:=by exact⟨rfl,.inr ⟨by simp only[si,h0.out,h1.out,Option.bind_some,Option.bind_none],rfl,_,hI.sub SB⟩⟩):p:=h
theorem W90{p:Prop}(h:p:=by go_wp2_with fail;go_ret;exact⟨rfl,hI.end_,hI.mbk nz⟩):p:=h
theorem W91{p:Prop}(h:p:=by go_wp2_with fail;go_ret;exact⟨rfl,hI.end_,hI.mbk aM⟩):p:=h
theorem W92{p:Prop}(h:p:=by
  have:k=0∨k=1∨k=2∨k=3∨k=4:=by omega
  rcases this with rfl|rfl|rfl|rfl|rfl<;>(unfold wrap64;decide)
  ):p:=h
theorem W93{p:Prop}(h:p:=by rw[List.length_set];exact(um who dead _ (ow x _ _ _ hx OM (nP dead hd)) hd 5 OM).1):p:=h
theorem W94{p:Prop}(h:p:=by go_wp2_with(fail);exact bodyPost_ret (aH hI rfl rfl aC Hz hsl) rfl ⟨rfl,hI.below⟩):p:=h
theorem W95{p:Prop}(h:p:=by exact bodyPost_ret (jA hI rfl rfl aC (bP.out (t:=41)) hn) rfl ⟨rfl,hI.sub SB⟩):p:=h
theorem W96{p:Prop}(h:p:=by simp[IntKind.wrap,IntKind.bits,IntKind.signed];omega):p:=h
theorem W97{p:Prop}(h:p:=by go_wp2_with(fail);go_ret;exact⟨rfl,hI.below⟩):p:=h
theorem W98{p:Prop}(h:p:=by exact⟨a,c,hs (blk pr 219 [.slice a bs.length c]) SI,hc,hm,hs (nY ab a bs) SI⟩):p:=h
theorem W99{p:Prop}(h:p:=by simp only[t,Option.bind_some,show ah []=[]from rfl,List.nil_append,r,q,a,Ee]):p:=h
theorem ai4{p:Prop}(h:p:=by exact bodyPost_ret (aH hI rfl rfl aC n_ DC) rfl ⟨rfl,hI.below⟩):p:=h
theorem ai5{p:Prop}(h:p:=by exact bodyPost_ret (aH hI rfl rfl aC yx hm) rfl ⟨rfl,hI.below⟩):p:=h
theorem ai6{p:Prop}(h:p:=by exact⟨rfl,_,h_ KF _ _,Y2,rfl,hI.sub (.cons _ (.cons _ (.cons _ (.refl _))))⟩):p:=h
theorem ai7{p:Prop}(h:p:=by
  refine(UF w0 f d mr wb D B hD hwl hE hI bs cnt used D' er h).mono ?_
  grind
  ):p:=h
theorem ai8{p:Prop}(h:p:=by
  go_wp2_with fail
  go_quiet (fail)
  go_wp2_with fail
  go_ret2
  exact⟨rfl,bdn _ _⟩
  ):p:=h
theorem ai9{p:Prop}(h:p:=by
  rintro e w' (⟨z',b',cs',h1,h2,h3,h4⟩ | ⟨h1,h2,h3⟩)
  all_goals grind
  ):p:=h
theorem af5{p:Prop}(h:p:=by exact⟨rfl,_,h_ KF _ _,Y1,rfl,hI.tl⟩):p:=h
theorem ai_{p:Prop}(h:p:=by
  rintro e w' (⟨z',b',cs',h1,h2,h3,h4⟩ | ⟨h1,_⟩)
  all_goals grind
  ):p:=h
theorem aja{p:Prop}(h:p:=by have b2:=(JR hb).2 [];rw[List.append_nil]at b2;unfold lZ;exact W71):p:=h
theorem af6{p:Prop}(h:p:=by go_wp2_with(fail);rw[hF2.out];exact W40):p:=h
theorem ajb{p:Prop}(h:p:=by
  simp only[fe]
  have e2:(two W y).own=W.own++y.own:=rfl
  grind
  ):p:=h
theorem ajc{p:Prop}(h:p:=by exact UG w0 X Y S hX k z hz e he (by grind) (by grind) h1 hI):p:=h
theorem ajd{p:Prop}(h:p:=by
  by_cases hi:i=X.f*5+t
  all_goals simp_all[bE,wK.eq_1,bI]
  ):p:=h
