import Derived.Test.YteoilpcbekijlaaGreatDoorRrn
import Derived.Test.YteoilpcbekijlaaGreatDoorLib
import Derived.Test.YteoilpcbekijlaaGreatDoorCod
set_option linter.unusedSimpArgs false
set_option linter.unusedVariables false
set_option maxRecDepth 100000
set_option maxHeartbeats 1600000
namespace Go.Proofs.YteoilpcbekijlaaGreatDoor
open Go.RowKit
structure Rs where
 at' : Int
 vars:List Vl
 things:List (Int × List Vl)
 taken:Int
 lines:List ByteArray
 ending:Int
def dV:Vl:=⟨0,0⟩
def dT:Int × List Vl:=(0,[])
abbrev Rs.val (s:Rs) (k:Nat):Vl:=s.vars.getD k dV
abbrev Rs.thing (s:Rs) (k:Nat):Int × List Vl:=s.things.getD k dT
abbrev Rs.field (s:Rs) (k j:Nat):Vl:=(s.things.getD k dT).2.getD j dV
abbrev Rs.line (s:Rs) (k:Nat):ByteArray:=s.lines.getD k ByteArray.empty
abbrev flatV (l:List Vl):List Value:=l.flatMap Vl.cells
abbrev Th.cells (t:Th):List Value:=[.int .i64 t.site,.slice t.fs.p t.fs.n t.fs.cap]
abbrev flatT (l:List Th):List Value:=l.flatMap Th.cells
abbrev lineCells (s:ByteArray):List Value:=[.string s]
abbrev flatL (l:List ByteArray):List Value:=l.flatMap lineCells
theorem lenV (x:Vl):(Vl.cells x).length=2:=rfl
theorem lenT (x:Th):(Th.cells x).length=2:=rfl
theorem lenL (x:ByteArray):(lineCells x).length=1:=rfl
structure RunIs (w:World) (r:Rn) (s:Rs):Prop where
 ex:∃ ths:Nat→Th,RunAt w r s.val ths s.field s.line∧∀ k,k<s.things.length→(ths k).site=(s.thing k).1∧(ths k).fs.n=(s.thing k).2.length
 a:r.at'=s.at'
 t:r.taken=s.taken
 e:r.ending=s.ending
 nv:r.vars.n=s.vars.length
 nt:r.things.n=s.things.length
 nl:r.lines.n=s.lines.length
theorem RunIs.grow {w w' : World}{r:Rn}{s:Rs}(h:RunIs w r s) (hb:Below w.heap.size w w'):RunIs w' r s:=by
 obtain⟨⟨ths,h1,h2⟩,h3,h4,h5,h6,h7,h8⟩:=h
 exact⟨⟨ths,h1.grow hb,h2⟩,h3,h4,h5,h6,h7,h8⟩
theorem RunIs.same {w:World}{a b:Rn}{s:Rs}(ha:RunIs w a s) (hb:RunIs w b s):∃ va vb ta tb fa fb la lb,RunAt w a va ta fa la∧RunAt w b vb tb fb lb∧sameRun a b va vb ta tb fa fb la lb=true:=by
 obtain⟨⟨ta,h1,h2⟩,h3,h4,h5,h6,h7,h8⟩:=ha
 obtain⟨⟨tb,g1,g2⟩,g3,g4,g5,g6,g7,g8⟩:=hb
 refine⟨_,_,ta,tb,_,_,_,_,h1,g1,?_⟩
 have e1:headDiff a b s.val s.val=false:=by
  simp[headDiff,sameVals,h3,h4,h5,h6,h7,h8,g3,g4,g5,g6,g7,g8,anyN,diffAt]
 have e2:anyN (thingDiff ta tb s.field s.field) a.things.n=false:=anyN_no fun k hk=>by
  have:=h2 k (by omega)
  have:=g2 k (by omega)
  simp[thingDiff,sameVals,anyN,diffAt, *]
 have e3:anyN (lineDiff s.line s.line) a.lines.n=false:=anyN_no fun k _=>by simp[lineDiff]
 simp[sameRun,e1,e2,e3]
def rsOf (r:Rn) (vs:Nat→Vl) (ths:Nat→Th) (fv:Nat→Nat→Vl) (ls:Nat→ByteArray):Rs:=
 ⟨r.at',(List.range r.vars.n).map vs,(List.range r.things.n).map (fun k=>((ths k).site,(List.range (ths k).fs.n).map (fv k))),r.taken,(List.range r.lines.n).map ls,r.ending⟩
theorem RunAt.is {w:World}{r:Rn}{vs:Nat→Vl}{ths:Nat→Th}{fv:Nat→Nat→Vl}{ls:Nat→ByteArray}(h:RunAt w r vs ths fv ls):RunIs w r (rsOf r vs ths fv ls):=by
 refine⟨⟨ths,⟨?_,h.things,fun k hk=>⟨(h.fields k hk).1,?_⟩,?_,h.n1,h.n2,h.n3⟩,fun k hk=>?_⟩,rfl,rfl,rfl,by simp[rsOf],by simp[rsOf],by simp[rsOf]⟩
 ·refine h.vars.congr fun k hk=>?_
  show Vl.cells (((List.range r.vars.n).map vs).getD k dV)=_
  rw[getD_map_range _ _ _ _ hk]
 ·refine(h.fields k hk).2.congr fun j hj=>?_
  show ((((List.range r.things.n).map _).getD k dT).2.getD j dV).cells=_
  rw[getD_map_range _ _ _ _ hk,getD_map_range _ _ _ _ hj]
 ·refine h.lines.congr fun k hk=>?_
  show [Value.string (((List.range r.lines.n).map ls).getD k ByteArray.empty)]=_
  rw[getD_map_range _ _ _ _ hk]
 ·have hk' : k<r.things.n:=by simpa [rsOf] using hk
  show (ths k).site=(((List.range r.things.n).map _).getD k dT).1∧(ths k).fs.n=(((List.range r.things.n).map _).getD k dT).2.length
  rw[getD_map_range _ _ _ _ hk']
  simp
inductive FRows:List Th→List (Int × List Vl)→List LBlk→Prop where
 | nil:FRows [] [] []
 | cons {t:Th}{l:List Vl}{R:List LBlk}{ts:List Th}{ths:List (Int × List Vl)}{Rf:List LBlk}(h:RowS 81 2 t.fs.p t.fs.n t.fs.cap (flatV l) R) (hs:FRows ts ths Rf):FRows (t::ts) ((t.site,l)::ths) (R++Rf)
theorem FRows.snoc {ts:List Th}{ths:List (Int × List Vl)}{Rf:List LBlk}(h:FRows ts ths Rf) {t:Th}{l:List Vl}{R:List LBlk}(hr:RowS 81 2 t.fs.p t.fs.n t.fs.cap (flatV l) R):
  FRows (ts++[t]) (ths++[(t.site,l)]) (Rf++R):=by
 induction h with
 | nil=>have:=FRows.cons hr .nil;simpa using this
 | cons h hs ih=>rw[List.append_assoc];exact .cons h ih
theorem FRows.len {ts:List Th}{ths:List (Int × List Vl)}{Rf:List LBlk}(h:FRows ts ths Rf):ts.length=ths.length:=by
 induction h with
 | nil=>rfl
 | cons h hs ih=>simp[ih]
theorem FRows.get {ts:List Th}{ths:List (Int × List Vl)}{Rf:List LBlk}(h:FRows ts ths Rf) (dt:Th):∀ k,k<ts.length→∃ Ra R Rb,Rf=Ra++(R++Rb)∧(ths.getD k dT).1=(ts.getD k dt).site∧
  RowS 81 2 (ts.getD k dt).fs.p (ts.getD k dt).fs.n (ts.getD k dt).fs.cap (flatV (ths.getD k dT).2) R∧
  ∀ l' R',RowS 81 2 (ts.getD k dt).fs.p (ts.getD k dt).fs.n (ts.getD k dt).fs.cap (flatV l') R'→FRows ts (ths.set k ((ts.getD k dt).site,l')) (Ra++(R'++Rb)):=by
 induction h with
 | nil=>intro k hk;exact absurd hk (by simp)
 | @cons t l R ts ths Rf h hs ih=>
  intro k hk
  cases k with
  | zero=>exact⟨[],R,Rf,rfl,rfl,h,fun l' R' h'=>by simpa using FRows.cons (t:=t) h' hs⟩
  | succ k=>
   obtain⟨Ra,R1,Rb,e1,e2,e3,e4⟩:=ih k (by simpa using hk)
   exact⟨R++Ra,R1,Rb,by rw[e1,List.append_assoc],e2,e3,fun l' R' h'=>by
    rw[List.append_assoc];exact .cons h (e4 l' R' h')⟩
structure RowsR (r:Rn) (s:Rs) (ts:List Th) (Rv Rt Rl Rf:List LBlk):Prop where
 vars:RowS 81 2 r.vars.p r.vars.n r.vars.cap (flatV s.vars) Rv
 things:RowS 83 2 r.things.p r.things.n r.things.cap (flatT ts) Rt
 lines:RowS 9 1 r.lines.p r.lines.n r.lines.cap (flatL s.lines) Rl
 fields:FRows ts s.things Rf
 a:r.at'=s.at'
 t:r.taken=s.taken
 e:r.ending=s.ending
def dTh:Th:=⟨0,⟨none,0,0⟩⟩
theorem RowsR.is {r:Rn}{s:Rs}{ts:List Th}{Rv Rt Rl Rf:List LBlk}{B:Nat}{w:World}(h:RowsR r s ts Rv Rt Rl Rf) (ho:Own B w (Rv++(Rt++(Rl++Rf)))):RunIs w r s:=by
 have ov:Own B w Rv:=ho.sub (List.sublist_append_left _ _)
 have o2:=ho.sub (List.sublist_append_right Rv (Rt++(Rl++Rf)))
 have ot:Own B w Rt:=o2.sub (List.sublist_append_left _ _)
 have o3:=o2.sub (List.sublist_append_right Rt (Rl++Rf))
 have ol:Own B w Rl:=o3.sub (List.sublist_append_left _ _)
 have of:Own B w Rf:=o3.sub (List.sublist_append_right Rl Rf)
 obtain⟨v1,v2⟩:=h.vars.listC lenV dV (by decide) ov
 obtain⟨t1,t2⟩:=h.things.listC lenT dTh (by decide) ot
 obtain⟨l1,l2⟩:=h.lines.listC lenL ByteArray.empty (by decide) ol
 have hlen:=h.fields.len
 have hf:∀ k,k<r.things.n→(s.thing k).1=(ts.getD k dTh).site∧(ts.getD k dTh).fs.n≤9223372036854775807∧(ts.getD k dTh).fs.n=(s.thing k).2.length∧ListC w 2 (ts.getD k dTh).fs.p (ts.getD k dTh).fs.n (fun j=>(s.field k j).cells):=by
  intro k hk
  obtain⟨Ra,R,Rb,e1,e2,e3,_⟩:=h.fields.get dTh k (by omega)
  subst e1
  have oR:Own B w R:=(of.sub (List.sublist_append_right Ra (R++Rb))).sub (List.sublist_append_left _ _)
  obtain⟨f1,f2⟩:=e3.listC lenV dV (by decide) oR
  exact⟨e2,e3.max,f1,f2⟩
 refine⟨⟨fun k=>ts.getD k dTh,⟨v2,t2,fun k hk=>⟨(hf k hk).2.1,(hf k hk).2.2.2⟩,l2,h.vars.max,h.things.max,h.lines.max⟩,fun k hk=>?_⟩,h.a,h.t,h.e,v1,t1.trans hlen,l1⟩
 have:=hf k (by omega)
 exact⟨this.1.symm,this.2.2.1⟩
theorem eqn_V (a:Option Addr) (n cap:Nat) (w:World):(binOp .eql 42 (.slice a n cap) (.slice none 0 0)).run Tryz.prog w=.ok (.bool a.isNone) w:=by cases a<;>kernel_rfl
theorem eqg_V (a:Option Addr) (n cap:Nat) (x y:Operand) (w:World):(eqGuard .eql 42 x y (.slice a n cap) (.slice none 0 0)).run Tryz.prog w=.ok () w:=by kernel_rfl
theorem wp_eqn_V {ops:Array Oper}{Q:Exit→Act→World→Prop}{act:Act}{w:World}{rest:List Oper}{d:Option Tmp}{ty u:TypeId}{pos:String}{after:Array Edge}{x y:Operand}{a:Option Addr}{n cap:Nat}{b:Bool}(hq:a.isNone=b) (ha:act.eval x=.slice a n cap) (hb:act.eval y=.slice none 0 0)
  (h:wpList Tryz.prog ops Q rest (act.put d (.bool b)) w):wpList Tryz.prog ops Q (⟨d,.binOp .eql 42 x y u,ty,pos,after,none⟩::rest) act w:=
 wp_bin (w':=w) (by rw[ha,hb];exact eqg_V a n cap x y w) (by rw[ha,hb];rw[← hq];exact eqn_V a n cap w) h
theorem cloneValues (p:Option Addr) (n cap:Nat) (l:List Vl) (w:World) (hl:ListC w 2 p n (fun k=>Vl.cells (l.getD k dV))) (hn:n=l.length) (hb:n*16≤140737488355328):
  Calls Tryz.prog 116 #[.slice p n cap] w fun e w'=>∃ p' cap' R,e=.returned (.slice p' n cap')∧RowS 81 2 p' n cap' (l.flatMap Vl.cells) R∧Own w.heap.size w' R∧Below w.heap.size w w':=by
 have HN:=Lib.hid (fun w' (hw:Below w.heap.size w w')=>(hl.grow hw).news (l:=l) lenV hn)
 have hlen:(l.flatMap Vl.cells).length=n*2:=by rw[flat_len lenV,hn]
 have hone:∀ u∈l.flatMap Vl.cells,u.oneCell'=true:=by
  intro u hu
  obtain⟨x,_,hx⟩:=List.mem_flatMap.1 hu
  simp only[Vl.cells,List.mem_cons,List.not_mem_nil,or_false]at hx
  rcases hx with rfl|rfl<;>rfl
 have hmx : n ≤ maxLen := by have : maxLen = 9223372036854775807 := rfl
                             omega
 have hd:p=none→l=[]:=by
  rintro rfl
  obtain⟨b,o,h1,_⟩:=hl.ex
  rcases Nat.eq_zero_or_pos n with h0|h0
  ·exact List.length_eq_zero_iff.1 (by omega)
  ·exact absurd (h1 h0) (by simp)
 have HD:=Lib.hid hd
 have HO:=Lib.hid hone
 have HB:=Lib.hid (And.intro hlen (And.intro hmx (And.intro hn hb)))
 clear hl hd hone hlen hmx hn hb
 have hL:=Loc.start w
 cases p with
 | none=>
  have h0:=HD.out rfl
  subst h0
  obtain rfl:n=0:=by have:=HB.out.2.2.1;simpa using this
  clear HB HO HN HD
  go_enter Tryz.func116,Tryz.ntmps116
  go_wp2_with (refine wp_eqn_V (b:=true) rfl rfl rfl ?_)
  go_ret
  exact⟨none,0,[],rfl,RowS.nil,Own.nil,hL.below⟩
 | some ad=>
  go_enter Tryz.func116,Tryz.ntmps116
  go_wp2_with (first|(refine wp_eqn_V (b:=false) rfl rfl rfl ?_)|(refine loc_build0 hL rfl sValues ?_;clear hL;intro p0 w1 hL)|(refine loc_appendS (R:=[]) (K:=[]) (RowS.nil (p:=p0)) (by simpa using hL) rfl rfl rfl sValues bValue (by decide) rfl (HN.out _ hL.below) HB.out.1 HO.out (by rw[Nat.zero_add];exact HB.out.2.1) (by rw[Nat.zero_add];exact HB.out.2.2.2) ?_;clear hL;intro p' cap' R' w' hR hL))
  go_ret
  simp only[Nat.zero_add,List.nil_append]at hR hL ⊢
  exact⟨p',cap',R',rfl,hR,hL.own,hL.below⟩
theorem eqn_L (a:Option Addr) (n cap:Nat) (w:World):(binOp .eql 44 (.slice a n cap) (.slice none 0 0)).run Tryz.prog w=.ok (.bool a.isNone) w:=by cases a<;>kernel_rfl
theorem eqg_L (a:Option Addr) (n cap:Nat) (x y:Operand) (w:World):(eqGuard .eql 44 x y (.slice a n cap) (.slice none 0 0)).run Tryz.prog w=.ok () w:=by kernel_rfl
theorem wp_eqn_L {ops:Array Oper}{Q:Exit→Act→World→Prop}{act:Act}{w:World}{rest:List Oper}{d:Option Tmp}{ty u:TypeId}{pos:String}{after:Array Edge}{x y:Operand}{a:Option Addr}{n cap:Nat}{b:Bool}(hq:a.isNone=b) (ha:act.eval x=.slice a n cap) (hb:act.eval y=.slice none 0 0)
  (h:wpList Tryz.prog ops Q rest (act.put d (.bool b)) w):wpList Tryz.prog ops Q (⟨d,.binOp .eql 44 x y u,ty,pos,after,none⟩::rest) act w:=
 wp_bin (w':=w) (by rw[ha,hb];exact eqg_L a n cap x y w) (by rw[ha,hb];rw[← hq];exact eqn_L a n cap w) h
theorem cloneLines (p:Option Addr) (n cap:Nat) (l:List ByteArray) (w:World) (hl:ListC w 1 p n (fun k=>lineCells (l.getD k ByteArray.empty))) (hn:n=l.length) (hb:n*16≤140737488355328):
  Calls Tryz.prog 117 #[.slice p n cap] w fun e w'=>∃ p' cap' R,e=.returned (.slice p' n cap')∧RowS 9 1 p' n cap' (l.flatMap lineCells) R∧Own w.heap.size w' R∧Below w.heap.size w w':=by
 have HN:=Lib.hid (fun w' (hw:Below w.heap.size w w')=>(hl.grow hw).news (l:=l) lenL hn)
 have hlen:(l.flatMap lineCells).length=n*1:=by rw[flat_len lenL,hn]
 have hone:∀ u∈l.flatMap lineCells,u.oneCell'=true:=by
  intro u hu
  obtain⟨x,_,hx⟩:=List.mem_flatMap.1 hu
  simp only[lineCells,List.mem_cons,List.not_mem_nil,or_false]at hx
  subst hx;rfl
 have hmx : n ≤ maxLen := by have : maxLen = 9223372036854775807 := rfl
                             omega
 have hd:p=none→l=[]:=by
  rintro rfl
  obtain⟨b,o,h1,_⟩:=hl.ex
  rcases Nat.eq_zero_or_pos n with h0|h0
  ·exact List.length_eq_zero_iff.1 (by omega)
  ·exact absurd (h1 h0) (by simp)
 have HD:=Lib.hid hd
 have HO:=Lib.hid hone
 have HB:=Lib.hid (And.intro hlen (And.intro hmx (And.intro hn hb)))
 clear hl hd hone hlen hmx hn hb
 have hL:=Loc.start w
 cases p with
 | none=>
  have h0:=HD.out rfl
  subst h0
  obtain rfl:n=0:=by have:=HB.out.2.2.1;simpa using this
  clear HB HO HN HD
  go_enter Tryz.func117,Tryz.ntmps117
  go_wp2_with (refine wp_eqn_L (b:=true) rfl rfl rfl ?_)
  go_ret
  exact⟨none,0,[],rfl,RowS.nil,Own.nil,hL.below⟩
 | some ad=>
  go_enter Tryz.func117,Tryz.ntmps117
  go_wp2_with (first|(refine wp_eqn_L (b:=false) rfl rfl rfl ?_)|(refine loc_build0 hL rfl sStrs ?_;clear hL;intro p0 w1 hL)|(refine loc_appendS (R:=[]) (K:=[]) (RowS.nil (p:=p0)) (by simpa using hL) rfl rfl rfl sStrs bStr (by decide) rfl (HN.out _ hL.below) HB.out.1 HO.out (by rw[Nat.zero_add];exact HB.out.2.1) (by rw[Nat.zero_add];exact HB.out.2.2.2) ?_;clear hL;intro p' cap' R' w' hR hL))
  go_ret
  simp only[Nat.zero_add,List.nil_append]at hR hL ⊢
  exact⟨p',cap',R',rfl,hR,hL.own,hL.below⟩
def beginS (n:Nat):Rs:=⟨0,List.replicate n dV,[],0,[],0⟩
theorem flat_rep (n:Nat):(List.replicate n [Value.int .i64 0,Value.int .i64 0]).flatten=flatV (List.replicate n dV):=by
 simp[flatV,List.flatMap,dV]
def Gives (w:World) (s:Rs) (e:Ending) (w' : World):Prop:=∃ r ts Rv Rt Rl Rf,e=.returned (Rn.v r)∧RowsR r s ts Rv Rt Rl Rf∧Own w.heap.size w' (Rv++(Rt++(Rl++Rf)))∧Below w.heap.size w w'
theorem begin_any (p:Pg) (n:Nat) (w:World) (hp:p.vars=n) (hn:n≤8):
  Calls Tryz.prog 51 #[p.v] w fun e w'=>Gives w (beginS n) e w':=by
 obtain⟨vars,fields,pc,pn,cap⟩:=p
 dsimp only at hp
 subst hp
 have HN:=Lib.hid hn
 clear hn
 have hL:=Loc.start w
 go_enter Tryz.func51,Tryz.ntmps51
 go_wp2_with (first|(with_reducible first|refine lld hL ?_|((first|refine lbx hL ?_|refine lal hL ?_|refine lbs hL ?_);clear hL;intro bl w1 hL)|(refine lst' hL ?_;clear hL;intro w1 hL))|(refine loc_make hL rfl sValues bValue rfl rfl (by have:=HN.out;omega) (by have:=HN.out;omega) ?_;clear hL;intro bm w1 hL))
 (try simp only[Exit.inBlock,Exit.then]);refine rt1 ?_
 rw[flat_rep]at hL
 have hn:=HN.out
 refine⟨⟨0,⟨some ⟨bm,0,none⟩,n,n⟩,⟨none,0,0⟩,0,⟨none,0,0⟩,0⟩,[],[(bm,81,flatV (List.replicate n dV))],[],[],[],rfl,⟨RowS.full (by rw[flat_len lenV];simp[beginS]) (by show n≤maxLen;have:maxLen=9223372036854775807:=rfl;omega),RowS.nil,RowS.nil,.nil,rfl,rfl,rfl⟩,?_,hL.below⟩
 exact hL.ownOf (by simp)
theorem Loc.ofOwn {w w' : World}{R:List LBlk}(hb:Below w.heap.size w w') (ho:Own w.heap.size w' R):Loc w w' R []:=
 ⟨hb,ho.nodup,fun e he=>(ho.at' e he).1,fun e he=>(ho.at' e he).2,fun S hS=>by cases hS⟩
def zeroR:Rn:=⟨0,⟨none,0,0⟩,⟨none,0,0⟩,0,⟨none,0,0⟩,0⟩
end Go.Proofs.YteoilpcbekijlaaGreatDoor
