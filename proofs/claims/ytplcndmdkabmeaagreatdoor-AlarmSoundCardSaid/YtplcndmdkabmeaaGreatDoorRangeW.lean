/-  -/
import Derived.Test.YtplcndmdkabmeaaGreatDoorLib
import Derived.RangeFuncNested
import Derived.OrdersIn
import Derived.TacticsIn
import Derived.RangeFuncBound
import Derived.RangeFuncCalls
import Derived.RangeFuncLeaves
set_option linter.unusedSimpArgs false
set_option linter.unusedVariables false
set_option maxRecDepth 100000
namespace Go.Proofs.YtplcndmdkabmeaaGreatDoor
open Go.RowKit
abbrev inR (r:Option Nat):Fence:={ Fence.wide with round:=r }
section
variable {P : Program} {r : Option Nat} {n : Nat} {K : Act → World → Prop} {Q : Exit → Act → World → Prop} {a : Act} {w : World}
theorem calls_in {f:FuncId}{args:Array Value}{R:Ending→World→Prop}(h:Calls P f args w R):CallsIn (inR r) n P f args w R:=
 (callsIn_wide.2 h:CallsIn Fence.wide n P f args w R)
theorem rows_in {row:String}{args:Array Value}{R:Value→World→Prop}(h:Rows P row args w R):RowsIn (inR r) n P row args w R:=fun c cs _=>by
 obtain⟨v,w',h1,h2⟩:=h c cs
 exact⟨v,w',h1,(stepsIn_wide.2 h2:StepsIn (Machine.fenced P Fence.wide) P _ _)⟩
theorem no_depth {m:Nat}:(inR r).depth.isSome=true→1≤m:=fun h=>by cases h
theorem upon_in {o:Oper}{x:Result Next}(h:o.upon P a K Q x):o.uponIn (inR r) n P a K Q x:=by
 cases x with
 | ok y w'=>
  cases y
  case enter f args=>exact⟨no_depth,calls_in (Calls.mono h fun e w'' he=>by cases e<;>exact he)⟩
  case row s args=>exact⟨no_depth,rows_in h⟩
  all_goals first|exact h|exact absurd h (by simp[Oper.upon])
 | halt y w'=>cases y<;>first|exact h|exact absurd h (by simp[Oper.upon])
def laterB (o:Oper):Bool:=match o.op with
 | .defer _=>true
 | _=>false
theorem later_no {o:Oper}(h:laterB o=false):∀ c,o.op≠.defer c:=fun c e=>by
 unfold laterB at h
 rw[e]at h
 cases h
theorem wp_in {o:Oper}(hd:laterB o=false) (h:o.wp P a w K Q):o.wpIn (inR r) n P a w K Q:=by
 refine⟨fun _ _=>trivial,?_⟩
 have e:o.semAt (inR r).round a.eval=execOp a.eval o:=Oper.semAt_eq r _ o (later_no hd)
 rw[e]
 exact upon_in h
theorem ops_in {ops:Array Oper}(hd:ops.toList.all (fun o=>!laterB o)=true) (hQ:¬ LetsOut Q):∀ (l:List Nat) (a:Act) (w:World),wpOps P ops Q l a w→wpOpsIn (inR r) n P ops Q l a w
 | [],_,_,h=>h
 | i::rest,a,w,h=>by
  unfold wpOps at h
  unfold wpOpsIn
  cases ho:ops[i]? with
  | none=>
   simp only[ho]at h ⊢
   exact ops_in hd hQ rest a w h
  | some o=>
   simp only[ho]at h ⊢
   have hl:laterB o=false:=by
    have:=List.all_eq_true.1 hd o (by
     obtain⟨h1,h2⟩:=Array.getElem?_eq_some_iff.1 ho
     rw[← h2]
     exact Array.getElem_mem_toList h1)
    simpa using this
   by_cases hw:Region.wanted o (yielded ops a.tmps)=true
   ·rw[if_pos hw]at h ⊢
    rcases h with h|h
    ·exact Oper.wpIn_mono (fun a w h=>ops_in hd hQ rest a w h) (wp_in hl h)
    ·exact absurd h.2 hQ
   ·rw[if_neg hw]at h ⊢
    exact⟨fun _ _=>trivial,ops_in hd hQ rest _ w h⟩
theorem region_in {id:Nat}{l:List Oper}(hd:l.all (fun o=>!laterB o)=true) (hQ:¬ LetsOut Q) (h:wpList P l.toArray Q l a w):(Code.region id l.toArray false).wpIn (inR r) n P Q a w:=by
 refine wpIn_region (ops_in (by simpa using hd) hQ _ _ _ ?_)
 rw[List.range_eq_range',← Array.length_toList,wpOps_eq_wpList l.toArray.toList 0 (by simp)]
 exact h
def AnyOrder (P:Program) (ops:Array Oper) (Q:Exit→Act→World→Prop) (a:Act) (w:World):Prop:=∀ t,wpOps P ops Q (Region.schedule (P.follows .mixedOrders) ops t) a { w with drawn:=w.drawn+1 }
theorem draw_in {id:Nat}{ops:Array Oper}(hd:ops.toList.all (fun o=>!laterB o)=true) (hQ:¬ LetsOut Q) (h:AnyOrder P ops Q a w):(Code.region id ops true).wpIn (inR r) n P Q a w:=
 wpIn_region_draw fun t=>ops_in hd hQ _ _ _ (h t)
end
section
variable {P : Program} {ops : Array Oper} {Q : Exit → Act → World → Prop} {t : List Value} {df : List Deferred} {ds : List Nat} {w1 : World} {Rs : List (Value → World → Prop)}
theorem draw_any {L:List LBlk}{D:List Datum}{w0:World}(hm:P.follows .mixedOrders=true) (hL:Loc w0 w1 L D) (hB:Region.drawB ops ds=true) (hlen:Rs.length=ds.length) (hD:Drawn P ops t df ds w1 Rs)
  (hfin:∀ g w,Below w1.heap.size w1 w→(∀ j,j<ds.length→RAt Rs ds j g w)→wpList P ops Q (ops.toList.drop ds.length) ⟨(fillD t ds g).toArray,df⟩ w):AnyOrder P ops Q ⟨t.toArray,df⟩ w1:=by
 intro tt
 simp only[Region.schedule,hm,Bool.true_or,if_true]
 refine wpAny_sound ops.size tt _ _ _ ?_
 have hle:ds.length≤ops.size:=by
  simp only[Region.drawB,Bool.and_eq_true,Bool.or_eq_true,decide_eq_true_eq]at hB
  rcases hB.2 with h|h<;>omega
 have h:=draw_core (Q:=Q) hB hlen hD hfin ds.length (Array.replicate ops.size false) (fun d=>t.getD d undef) w1.drew
  ⟨by simp,fun j oj _ hl=>(by rw[getD_replicate_false]at hl;cases hl),fun k _ hk=>(by simp[hk])⟩
  (by
   have:((List.range ds.length).filter fun i=>!(Array.replicate ops.size false).getD i true)=List.range ds.length:=by
    rw[List.filter_eq_self]
    intro i hi
    have:i<ops.size:=by have:=List.mem_range.1 hi;omega
    simp[this]
   rw[this];simp)
  ((Below.refl _ _).drew) (fun j _ hl=>(by rw[getD_replicate_false]at hl;cases hl)) (fun _ _ _ _=>rfl)
 rw[fillD_self,show ds.length+(ops.size - ds.length)=ops.size by omega]at h
 exact h
theorem draw_beginI {l:List Oper}(ds:List Nat) (h:DrawGoal P l.toArray (AnyOrder P l.toArray Q ⟨t.toArray,df⟩ w1) t df ds w1 [] l ds):AnyOrder P l.toArray Q ⟨t.toArray,df⟩ w1:=h rfl rfl Drawn.nil
theorem draw_endI {os:List Oper}{L:List LBlk}{D:List Datum}{w0:World}(hL:Loc w0 w1 L D) (hm:P.follows .mixedOrders=true) (hB:Region.drawB ops ds=true)
  (hfin:∀ g w,Below w1.heap.size w1 w→AllR Rs ds g w (List.range Rs.length)→wpList P ops Q os ⟨(fillD t ds g).toArray,df⟩ w):DrawGoal P ops (AnyOrder P ops Q ⟨t.toArray,df⟩ w1) t df ds w1 Rs os []:=
 fun h1 h2 hD=>by
  have hle:Rs.length≤ds.length:=hD.short
  have hge:ds.length≤Rs.length:=List.drop_eq_nil_iff.1 h2
  have hlen:Rs.length=ds.length:=Nat.le_antisymm hle hge
  exact draw_any hm hL hB hlen hD (fun g w hb hR=>by
   rw[← hlen,h1]
   exact hfin g w hb (allR_of fun j hj=>hR j (by rw[← hlen];exact List.mem_range.1 hj)))
end
end Go.Proofs.YtplcndmdkabmeaaGreatDoor
set_option linter.unusedSimpArgs false
set_option linter.unusedVariables false
set_option maxRecDepth 100000
namespace Go.Proofs.YtplcndmdkabmeaaGreatDoor
open Go.RowKit
structure KeepB (B:Nat) (W W' : World):Prop where
 size:W.heap.size≤W'.heap.size
 same:∀ b,B≤b→b<W.heap.size→W'.heap[b]? = W.heap[b]?
theorem KeepB.refl (B:Nat) (W:World):KeepB B W W:=⟨Nat.le_refl _,fun _ _ _=>rfl⟩
theorem KeepB.trans {B:Nat}{W W1 W2:World}(h:KeepB B W W1) (h' : KeepB B W1 W2):KeepB B W W2:=
 ⟨Nat.le_trans h.size h'.size,fun b h1 h2=>(h'.same b h1 (Nat.lt_of_lt_of_le h2 h.size)).trans (h.same b h1 h2)⟩
theorem KeepB.of {B:Nat}{W W' : World}(h:Below W.heap.size W W'):KeepB B W W':=⟨h.size,fun _ _ h2=>h.block _ h2⟩
structure Abides (B:Nat) (S:World→Prop):Prop where
 grow:∀ W W',Below W.heap.size W W'→S W→S W'
 turn:∀ W r r',W.heap[B+1]? = some (.loop r)→S W→S (W.putObj (B+1) (.loop r'))
def roundQ {σ:Type}(J:σ→World→Prop) (Jx:World→Prop) (B:Nat) (s:σ) (W:World):Exit→Act→World→Prop
 | .normal,_,W'=>J s W'∧KeepB B W W'
 | .ret,_,W'=>Jx W'∧KeepB B W W'
 | .exit _,_,_=>False
 | .goto _,_,_=>False
 | .panic _,_,_=>False
 | .outgrown,_,_=>False
def Yields' (P:Program) (n:Nat) (gf:Nat) (fb lb:Array Value) {σ X:Type}(encs:X→Array Value) (Need:σ→World→Prop) (G:σ→X→World→Prop) (next:σ→X→σ) (fin:σ→σ) (B:Nat):Prop:=
 ∀ (l:Nat) (J:σ→World→Prop) (Jx:World→Prop) (s:σ) (W:World),(∀ s W,J s W→Need s W)→(∀ s W W',Below W.heap.size W W'→J s W→J s W')→
  (∀ s x W,J s W→G s x W→YieldAt (inR none) (n - 1) P l (encs x) W fun e W'=>(e=.returned (.bool true)∧J (next s x) W'∧KeepB B W W')∨(e=.returned (.bool false)∧Jx W'))→
  B≤W.heap.size→J s W→CallsIn (inR none) n P gf (fb++#[.func (.yield l) #[] #[]]++lb) W fun e W'=>(∃ v,e=.returned v)∧(J (fin s) W'∨Jx W')
section
variable {P : Program} {w : World}
theorem range_walk {g:Operand}{ps:Array Tmp}{assign body:Code}{Q:Exit→Act→World→Prop}{a:Act}{n gf:Nat}{fb lb:Array Value}{σ X:Type}{encs:X→Array Value}
  {Need:σ→World→Prop} {G:σ→X→World→Prop} {next:σ→X→σ} {fin:σ→σ}
  (hg:a.eval g=.func (.func gf) fb lb) (eg:∀ args w,(callFunc gf args).run P w=.ok (.enter gf args) w) (hps:∀ x,(encs x).size=ps.size)
  (hit:Yields' P (n - 1) gf fb lb encs Need G next fin w.heap.size)
  (J:σ→World→Prop) (Jx:World→Prop) (hJ:∀ s,Abides w.heap.size (J s)) (hJx:Abides w.heap.size Jx) (hN:∀ s W,J s W→Need s W) (hG:∀ s x,Abides w.heap.size (G s x))
  (s:σ) (h0:J s w) (Ax:X→Act→World→Prop) (hAx:∀ x a',Abides w.heap.size (Ax x a'))
  (hassign:∀ (l:Nat) (s:σ) (x:X) (W:World) (K:Act→World→Prop),J s W→G s x W→(∀ a' W',Below W.heap.size W W'→Ax x a' W'→K a' W')→
   assign.wpIn (inR (some l)) (n - 1 - 1) P (Exit.then K (fun _ _ _=>False)) { tmps:=(ps.zip (encs x)).foldl (fun t (p,v)=>t.setIfInBounds p v) a.tmps,defers:=[] } W)
  (hbody:∀ (l:Nat) (s:σ) (x:X) (a' : Act) (W:World),w.heap.size+2≤W.heap.size→J s W→G s x W→Ax x a' W→body.wpIn (inR (some l)) (n - 1 - 1) P (roundQ J Jx w.heap.size (next s x) W) a' W)
  (hdone:∀ (D:Nat) (W:World),w.heap.size≤D→J (fin s) W→W.heap[D]? = some (.deferred (some []))→Q .normal { a with defers:={ target:=.collected D,args:=#[] }::a.defers } W)
  (hstop:∀ (D:Nat) (W:World),w.heap.size≤D→Jx W→W.heap[D]? = some (.deferred (some []))→Q .ret { a with defers:={ target:=.collected D,args:=#[] }::a.defers } W):
  (Code.rangeFunc g ps assign body).wpIn (inR none) n P Q a w:=by
 refine wpIn_rangeFunc ?_
 intro fn hfn
 obtain⟨rec,hrec⟩:∃ rec:LoopState→Option Code→Loop,rec=fun st pe=>{ state:=st,pending:=pe,fn,tmps:=a.tmps,params:=ps,assign,body,defers:=w.heap.size }:=⟨_,rfl⟩
 obtain⟨W1,hW1⟩:∃ W1,(w.alloc (.deferred (some []))).alloc (.loop (rec .ready none))=W1:=⟨_,rfl⟩
 have hL1:W1.heap[w.heap.size+1]? = some (.loop (rec .ready none)):=by
  rw[← hW1];have:=World.alloc_heap_new (w.alloc (.deferred (some []))) (.loop (rec .ready none));rwa [World.size_alloc]at this
 have hK1:W1.heap[w.heap.size]? = some (.deferred (some [])):=by
  rw[← hW1];exact(Below.heap_alloc _ _ _ (by simp)).trans (World.alloc_heap_new w _)
 have hb1:Below w.heap.size w W1:=by
  rw[← hW1];exact(((Below.refl _ w).alloc (Nat.le_refl _) _).alloc (by simp) _)
 have hI1:J s W1:=(hJ s).grow _ _ hb1 h0
 have hs1:w.heap.size+2≤W1.heap.size:=by rw[← hW1];simp
 refine⟨w.heap.size+1,[{ target:=.collected w.heap.size,args:=#[] }],W1,{ target:=.fn (.func gf) lb,args:=fb++#[.func (.yield (w.heap.size+1)) #[] #[]] },W1,gf,
  fb++#[.func (.yield (w.heap.size+1)) #[] #[]]++lb,W1,?_,?_,fun _ _=>trivial,?_,no_depth,?_⟩
 ·rw[← hW1,hrec];exact run_enterLoop_outer _ _ _ _ _
 ·simp only[resolve,hg]
  simp[go_sem]
 ·simp[invoke,go_sem,eg]
 ·refine(hit (w.heap.size+1)
   (fun s W=>J s W∧W.heap[w.heap.size+1]? = some (.loop (rec .ready none))∧W.heap[w.heap.size]? = some (.deferred (some [])))
   (fun W=>Jx W∧W.heap[w.heap.size+1]? = some (.loop (rec .done (some .ret)))∧W.heap[w.heap.size]? = some (.deferred (some []))) s
   W1 (fun s W h=>hN s W h.1) (fun s W W' hb h=>⟨(hJ s).grow _ _ hb h.1,by rw[hb.block _ (heap_lt h.2.1)];exact h.2.1,by rw[hb.block _ (heap_lt h.2.2)];exact h.2.2⟩) ?_ (by omega) ⟨hI1,hL1,hK1⟩).mono ?_
  · -- one round
   rintro s x W ⟨hi,hl,hk⟩ hgx
   have hlt:w.heap.size+1<W.heap.size:=heap_lt hl
   have hy:=run_yield (P:=P) (args:=encs x) hl (by rw[hrec];exact hps x)
   rw[hrec]at hy
   refine⟨fn,_,assign,body,hy,roundIn_of_wpIn hfn (hassign _ s x W _ hi hgx ?_)⟩
   clear hy
   intro a' Wa hba hax
   have hla:Wa.heap[w.heap.size+1]? = some (.loop (rec .ready none)):=by rw[hba.block _ hlt];exact hl
   have hka:Wa.heap[w.heap.size]? = some (.deferred (some [])):=by rw[hba.block _ (by omega)];exact hk
   have hlta:w.heap.size+1<Wa.heap.size:=heap_lt hla
   refine⟨_,run_beginRound hla (by rw[hrec]),?_⟩
   have hl2:(Wa.putObj (w.heap.size+1) (.loop { rec .ready none with state:=.busy })).heap[w.heap.size+1]? = some (.loop { rec .ready none with state:=.busy }):=World.putObj_heap_same hlta
   have hk2:(Wa.putObj (w.heap.size+1) (.loop { rec .ready none with state:=.busy })).heap[w.heap.size]? = some (.deferred (some [])):=(World.putObj_heap_other (by omega)).trans hka
   obtain⟨Wb,hWb⟩:∃ Wb,Wa.putObj (w.heap.size+1) (.loop { rec .ready none with state:=.busy })=Wb:=⟨_,rfl⟩
   have hsz:Wb.heap.size=Wa.heap.size:=by rw[← hWb];simp[World.putObj]
   have hoth:∀ b,b≠w.heap.size+1→Wb.heap[b]? = Wa.heap[b]? :=fun b hb=>by rw[← hWb];exact World.putObj_heap_other hb
   have hJb:J s Wb:=by rw[← hWb];exact(hJ s).turn _ _ _ hla ((hJ s).grow _ _ hba hi)
   have hGb:G s x Wb:=by rw[← hWb];exact(hG s x).turn _ _ _ hla ((hG s x).grow _ _ hba hgx)
   have hAb:Ax x a' Wb:=by rw[← hWb];exact(hAx x a').turn _ _ _ hla hax
   rw[hWb]at hl2 hk2
   rw[hWb]
   refine wpIn_mono (hbody _ s x a' _ (by omega) hJb hGb hAb) ?_
   have fin:∀ (jump:Option Code) (W3:World),KeepB w.heap.size Wb W3→
     (Instr.endRound (w.heap.size+1) jump).run P W3=.ok (.bool jump.isNone) (W3.putObj (w.heap.size+1) (.loop (rec (if jump.isNone then .ready else .done) jump)))∧
     W3.heap[w.heap.size+1]? = some (.loop { rec .ready none with state:=.busy })∧
     (W3.putObj (w.heap.size+1) (.loop (rec (if jump.isNone then .ready else .done) jump))).heap[w.heap.size+1]? = some (.loop (rec (if jump.isNone then .ready else .done) jump))∧
     (W3.putObj (w.heap.size+1) (.loop (rec (if jump.isNone then .ready else .done) jump))).heap[w.heap.size]? = some (.deferred (some [])):=fun jump W3 hk3=>by
    have hl3:=(hk3.same _ (by omega) (by omega)).trans hl2
    have h4:=run_endRound (P:=P) jump hl3
    rw[hrec]at h4 ⊢
    exact⟨h4,by rw[hrec]at hl3;exact hl3,World.putObj_heap_same (heap_lt hl3),(World.putObj_heap_other (by omega)).trans ((hk3.same _ (Nat.le_refl _) (by omega)).trans hk2)⟩
   rintro e a3 W3 hp
   cases e with
   | normal=>
    obtain⟨hi3,hk3⟩:=hp
    obtain⟨hr,hl3,hl4,hk4⟩:=fin none W3 hk3
    refine⟨_,_,hr,.inl ⟨rfl,⟨(hJ _).turn _ _ _ hl3 hi3,hl4,hk4⟩,?_⟩⟩
    refine⟨?_,fun b h1 h2=>?_⟩
    ·have h5:=hk3.size
     have h6:=hba.size
     rw[show ∀ o,(W3.putObj (w.heap.size+1) o).heap.size=W3.heap.size from fun o=>by simp[World.putObj]]
     omega
    ·by_cases hbl:b=w.heap.size+1
     ·subst hbl
      exact hl4.trans hl.symm
     ·rw[World.putObj_heap_other hbl,hk3.same b h1 (by have:=hba.size;omega),hoth b hbl,hba.block _ h2]
   | ret=>
    obtain⟨hi3,hk3⟩:=hp
    obtain⟨hr,hl3,hl4,hk4⟩:=fin (some .ret) W3 hk3
    exact⟨_,_,hr,.inr ⟨rfl,hJx.turn _ _ _ hl3 hi3,hl4,hk4⟩⟩
   | exit id=>exact hp.elim
   | goto t=>exact hp.elim
   | panic ch=>exact hp.elim
   | outgrown=>exact hp.elim
  · -- behind the iterator
   rintro e W2 ⟨⟨v,rfl⟩,(⟨hi,hl,hk⟩|⟨hi,hl,hk⟩)⟩
   ·exact⟨none,_,by have:=run_endLoop (P:=P) hl (by rw[hrec];simp);rw[hrec]at this;exact this,hdone _ _ (Nat.le_refl _) ((hJ _).turn _ _ _ hl hi) ((World.putObj_heap_other (by omega)).trans hk)⟩
   ·exact⟨some .ret,_,by have:=run_endLoop (P:=P) hl (by rw[hrec];simp);rw[hrec]at this;exact this,wpIn_ret (hstop _ _ (Nat.le_refl _) (hJx.turn _ _ _ hl hi) ((World.putObj_heap_other (by omega)).trans hk))⟩
end
end Go.Proofs.YtplcndmdkabmeaaGreatDoor
