import Derived.Test.YtajgekeiflblnaaGreatLib
import Derived.RangeFuncNested
import Derived.OrdersIn
import Derived.TacticsIn
set_option linter.unusedSimpArgs false
set_option linter.unusedVariables false
set_option maxRecDepth 100000
namespace Go.Proofs.YtajgekeiflblnaaGreat
open Go.RowKit
abbrev inR (r:Option Nat):Fence:={ Fence.wide with round:=r }
section
variable {P:Program}{r:Option Nat}{n:Nat}{K:Act→World→Prop}{Q:Exit→Act→World→Prop}{a:Act}{w:World}
theorem calls_in {f:FuncId}{args:Array Value}{R:Ending→World→Prop}(h:Calls P f args w R):CallsIn (inR r) n P f args w R:=
 (callsIn_wide.2 h:CallsIn Fence.wide n P f args w R)
theorem rows_in {row:String}{args:Array Value}{R:Value→World→Prop}(h:Rows P row args w R):RowsIn (inR r) n P row args w R:=fun c cs _=>by
 obtain⟨v,w',h1,h2⟩:=h c cs
 exact⟨v,w',h1,(stepsIn_wide.2 h2:StepsIn (Machine.fenced P Fence.wide) P _ _)⟩
theorem no_depth {m:Nat}:(inR r).depth.isSome=true→1≤m:=fun h=>by cases h
theorem upon_in {o:Oper}{x:Result Next}(h:o.upon P a K Q x):o.uponIn (inR r) n P a K Q x:=by
 cases x with
 | ok y w'=>
  cases y
  case enter f args=>exact⟨no_depth,calls_in (Calls.mono h fun e w'' he=>by cases e<;>exact he)⟩
  case row s args=>exact⟨no_depth,rows_in h⟩
  all_goals first|exact h|exact absurd h (by simp[Oper.upon])
 | halt y w'=>cases y<;>first|exact h|exact absurd h (by simp[Oper.upon])
def laterB (o:Oper):Bool:=match o.op with
 | .defer _=>true
 | _=>false
theorem later_no {o:Oper}(h:laterB o=false):∀ c,o.op≠.defer c:=fun c e=>by
 unfold laterB at h
 rw[e]at h
 cases h
theorem wp_in {o:Oper}(hd:laterB o=false) (h:o.wp P a w K Q):o.wpIn (inR r) n P a w K Q:=by
 refine⟨fun _ _=>trivial,?_⟩
 have e:o.semAt (inR r).round a.eval=execOp a.eval o:=Oper.semAt_eq r _ o (later_no hd)
 rw[e]
 exact upon_in h
theorem ops_in {ops:Array Oper}(hd:ops.toList.all (fun o=>!laterB o)=true) (hQ:¬ LetsOut Q):∀ (l:List Nat) (a:Act) (w:World),wpOps P ops Q l a w→wpOpsIn (inR r) n P ops Q l a w
 | [],_,_,h=>h
 | i::rest,a,w,h=>by
  unfold wpOps at h
  unfold wpOpsIn
  cases ho:ops[i]? with
  | none=>
   simp only[ho]at h ⊢
   exact ops_in hd hQ rest a w h
  | some o=>
   simp only[ho]at h ⊢
   have hl:laterB o=false:=by
    have:=List.all_eq_true.1 hd o (by
     obtain⟨h1,h2⟩:=Array.getElem?_eq_some_iff.1 ho
     rw[← h2]
     exact Array.getElem_mem_toList h1)
    simpa using this
   by_cases hw:Region.wanted o (yielded ops a.tmps)=true
   ·rw[if_pos hw]at h ⊢
    rcases h with h|h
    ·exact Oper.wpIn_mono (fun a w h=>ops_in hd hQ rest a w h) (wp_in hl h)
    ·exact absurd h.2 hQ
   ·rw[if_neg hw]at h ⊢
    exact⟨fun _ _=>trivial,ops_in hd hQ rest _ w h⟩
theorem region_in {id:Nat}{l:List Oper}(hd:l.all (fun o=>!laterB o)=true) (hQ:¬ LetsOut Q) (h:wpList P l.toArray Q l a w):(Code.region id l.toArray false).wpIn (inR r) n P Q a w:=by
 refine wpIn_region (ops_in (by simpa using hd) hQ _ _ _ ?_)
 rw[List.range_eq_range',← Array.length_toList,wpOps_eq_wpList l.toArray.toList 0 (by simp)]
 exact h
def AnyOrder (P:Program) (ops:Array Oper) (Q:Exit→Act→World→Prop) (a:Act) (w:World):Prop:=∀ t,wpOps P ops Q (Region.schedule (P.follows .mixedOrders) ops t) a { w with drawn:=w.drawn+1 }
theorem draw_in {id:Nat}{ops:Array Oper}(hd:ops.toList.all (fun o=>!laterB o)=true) (hQ:¬ LetsOut Q) (h:AnyOrder P ops Q a w):(Code.region id ops true).wpIn (inR r) n P Q a w:=
 wpIn_region_draw fun t=>ops_in hd hQ _ _ _ (h t)
end
section
variable {P:Program}{ops:Array Oper}{Q:Exit→Act→World→Prop}{t:List Value}{df:List Deferred}{ds:List Nat}{w1:World}{Rs:List (Value→World→Prop)}
theorem draw_any {L:List LBlk}{D:List Datum}{w0:World}(hm:P.follows .mixedOrders=true) (hL:Loc w0 w1 L D) (hB:Region.drawB ops ds=true) (hlen:Rs.length=ds.length) (hD:Drawn P ops t df ds w1 Rs)
  (hfin:∀ g w,Below w1.heap.size w1 w→(∀ j,j<ds.length→RAt Rs ds j g w)→wpList P ops Q (ops.toList.drop ds.length) ⟨(fillD t ds g).toArray,df⟩ w):AnyOrder P ops Q ⟨t.toArray,df⟩ w1:=by
 intro tt
 simp only[Region.schedule,hm,Bool.true_or,if_true]
 refine wpAny_sound ops.size tt _ _ _ ?_
 have hle:ds.length≤ops.size:=by
  simp only[Region.drawB,Bool.and_eq_true,Bool.or_eq_true,decide_eq_true_eq]at hB
  rcases hB.2 with h|h<;>omega
 have h:=draw_core (Q:=Q) hB hlen hD hfin ds.length (Array.replicate ops.size false) (fun d=>t.getD d undef) w1.drew
  ⟨by simp,fun j oj _ hl=>(by rw[getD_replicate_false]at hl;cases hl),fun k _ hk=>(by simp[hk])⟩
  (by
   have:((List.range ds.length).filter fun i=>!(Array.replicate ops.size false).getD i true)=List.range ds.length:=by
    rw[List.filter_eq_self]
    intro i hi
    have:i<ops.size:=by have:=List.mem_range.1 hi;omega
    simp[this]
   rw[this];simp)
  ((Below.refl _ _).drew) (fun j _ hl=>(by rw[getD_replicate_false]at hl;cases hl)) (fun _ _ _ _=>rfl)
 rw[fillD_self,show ds.length+(ops.size - ds.length)=ops.size by omega]at h
 exact h
theorem draw_beginI {l:List Oper}(ds:List Nat) (h:DrawGoal P l.toArray (AnyOrder P l.toArray Q ⟨t.toArray,df⟩ w1) t df ds w1 [] l ds):AnyOrder P l.toArray Q ⟨t.toArray,df⟩ w1:=h rfl rfl Drawn.nil
theorem draw_endI {os:List Oper}{L:List LBlk}{D:List Datum}{w0:World}(hL:Loc w0 w1 L D) (hm:P.follows .mixedOrders=true) (hB:Region.drawB ops ds=true)
  (hfin:∀ g w,Below w1.heap.size w1 w→AllR Rs ds g w (List.range Rs.length)→wpList P ops Q os ⟨(fillD t ds g).toArray,df⟩ w):DrawGoal P ops (AnyOrder P ops Q ⟨t.toArray,df⟩ w1) t df ds w1 Rs os []:=
 fun h1 h2 hD=>by
  have hle:Rs.length≤ds.length:=hD.short
  have hge:ds.length≤Rs.length:=List.drop_eq_nil_iff.1 h2
  have hlen:Rs.length=ds.length:=Nat.le_antisymm hle hge
  exact draw_any hm hL hB hlen hD (fun g w hb hR=>by
   rw[← hlen,h1]
   exact hfin g w hb (allR_of fun j hj=>hR j (by rw[← hlen];exact List.mem_range.1 hj)))
end
end Go.Proofs.YtajgekeiflblnaaGreat
