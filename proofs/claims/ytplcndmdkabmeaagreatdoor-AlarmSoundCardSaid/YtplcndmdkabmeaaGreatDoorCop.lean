import Derived.Test.YtplcndmdkabmeaaGreatDoorCod
import Derived.Test.YtplcndmdkabmeaaGreatDoorPrg
set_option linter.unusedSimpArgs false
set_option linter.unusedVariables false
set_option maxRecDepth 100000
set_option maxHeartbeats 8000000
namespace Go.Proofs.YtplcndmdkabmeaaGreatDoor
open Go.RowKit
def namesL:List (List UInt8):=[[],[118,110],[118,116],[118],[118,97],[118,97,98],[118,97,98],[118,97,98],[118,97,98],[118,97,98],[118,97],[118],[118,97,102],[97,102,98],[118,105],[97,103],[103],[97],[97],[]]
def namesS (k:Int):ByteArray:=⟨(namesL.getD k.toNat []).toArray⟩
theorem look_yes {k:Int}(h:betw k 1 19=true):∃ wd,shapeL.find? (fun x=>k==x.1)=some (k,.agg #[.string wd,.string (namesS k)]):=by
 rcases kinds_of h with rfl|rfl|rfl|rfl|rfl|rfl|rfl|rfl|rfl|rfl|rfl|rfl|rfl|rfl|rfl|rfl|rfl|rfl|rfl<;>exact⟨_,rfl⟩
theorem look_no {k:Int}(h:betw k 1 19=false):shapeL.find? (fun x=>k==x.1)=none:=by
 rw[List.find?_eq_none]
 simp[betw]at h
 intro x hx
 simp only[shapeL,List.mem_cons,List.not_mem_nil,or_false]at hx
 rcases hx with rfl|rfl|rfl|rfl|rfl|rfl|rfl|rfl|rfl|rfl|rfl|rfl|rfl|rfl|rfl|rfl|rfl|rfl|rfl<;>simp<;>omega
theorem names_few {k:Int}(h:betw k 1 19=true):(namesS k).size≤3:=by
 rcases kinds_of h with rfl|rfl|rfl|rfl|rfl|rfl|rfl|rfl|rfl|rfl|rfl|rfl|rfl|rfl|rfl|rfl|rfl|rfl|rfl<;>decide +kernel
theorem hzs:∀ w,(zeroValue 162).run Tryz.prog w=.ok (.agg #[.string ⟨#[]⟩,.string ⟨#[]⟩]) w:=fun w=>by kernel_rfl
section
variable {P : Program} {ops : Array Oper} {Q : Exit → Act → World → Prop} {a : Act} {w : World} {rest : List Oper} {d : Option Tmp} {ty : TypeId} {pos : String} {after : Array Edge}
theorem map_lookup {T K V:TypeId}{z v:Value}{b:Nat}{l:List (Int × Value)}{kk:Int}{x k:Operand}(hT:MapT P T K V) (hz:∀ w,(zeroValue V).run P w=.ok z w) (h:w.heap[b]? = some (.map (rowsOf l).toArray l.length))
  (hv:lookVal l z kk=v) (hx:a.eval x=.map (some b)) (hk:a.eval k=.int .i64 kk)
  (hQ:wpList P ops Q rest (a.put d v) w):wpList P ops Q (⟨d,.lookup T x k true,ty,pos,after,none⟩::rest) a w:=
 wpList_val (o:=⟨d,.lookup T x k true,ty,pos,after,none⟩) (w':=w) rfl (by simp only[execOp,hx,hk];rw[Sem.run_bind,run_lookup_map hT hz h,hv];rfl) hQ
end
def MapR (B:Nat) (es:Array MapEntry) (c:Nat):Value→World→Prop:=fun v w=>∃ b,B≤b∧v=.map (some b)∧w.heap[b]? = some (.map es c)
theorem MapR.stable {B es c}:Stable (MapR B es c):=by
 rintro v w w' hb ⟨b,h,hv,hc⟩
 exact⟨b,h,hv,(hb.block _ (heap_lt hc)).trans hc⟩
theorem one_no (p:Pg) (i:Ins) (hb:betw i.kind 1 19=false) (w:World):
  Calls Tryz.prog 86 #[p.v,i.v] w fun e w'=>e=.returned (.int .i64 6)∧Below w.heap.size w w':=by
 have hlk:=look_no hb
 have HLK:=Lib.hid hlk
 clear hlk hb
 have hL:=Loc.start w
 go_enter Tryz.func86,Tryz.ntmps86
 go_upto_region 1 with(first|(with_reducible first|refine lld hL ?_|((first|refine lbx hL ?_|refine lal hL ?_|refine lbs hL ?_);clear hL;intro bl w1 hL)|(refine lst' hL ?_;clear hL;intro w1 hL)))
 refine draw_begin [11,12,13,14,10,15,16,5] ?_
 refine draw_next (MapR w1.heap.size (rowsOf shapeL).toArray shapeL.length) MapR.stable ?_ ?_
 ·intro g w hb y;replace hL:=hL.grow hb;clear y;simp only[fillD,fLa,fLb,sTa,sTb]
  go_wp2_with (go_at_call 116;refine(shapes_any _).mono ?_;rintro e w3 ⟨b,rfl,hge,hm,hb3⟩;dsimp only)
  exact⟨rfl,_,rfl,hb3,b,Nat.le_trans hb.size hge,rfl,hm⟩
 simp only[apN,apC]
 refine dv0 ?_
 refine dv1 1 ?_
 apply draw_val
 ·intro g w hb y;replace hL:=hL.grow hb;have d0:(MapR w1.heap.size (rowsOf shapeL).toArray shapeL.length) (g 11) w:=yr y 0;obtain⟨bm,em,d0,fm⟩:=d0;have d2:=yv y 2;clear y;simp only[fillD,fLa,fLb,sTa,sTb];simp only[d0,d2]
  refine map_lookup (v:=.tuple #[.agg #[.string ⟨#[]⟩,.string ⟨#[]⟩],.bool false]) mShapes hzs fm (by unfold lookVal;rw[HLK.out]) rfl rfl ?_
  exact cY
 simp only[apN,apC]
 refine dv1 3 ?_
 refine dv1 4 ?_
 refine dv1 4 ?_
 apply draw_ptr
 ·intro g w hb y;replace hL:=hL.grow hb;clear y;simp only[fillD,fLa,fLb,sTa,sTb]
  go_wp2
  exact⟨rfl,_,rfl,(Below.refl _ _).alloc (Nat.le_refl _) _,_,hb.size,rfl,heap_new _ _⟩
 simp only[apN,apC]
 refine draw_end1 6 hL (by kernel_rfl) (by kernel_rfl) (fun _ _ _ _ _ h=>h) ?_ ?_
 ·(refine late_ok rfl rfl ?_;intro g w hb y;(try simp[depsOf,List.filter_cons,Region.binds,AllR,RAt]at y);simp only[fillD,List.foldl_cons,List.foldl_nil,List.set_cons_succ,List.set_cons_zero];(try simp only[y]);exact⟨_,.inl ⟨rfl,fun w=>(by go_simp<;>(try (split<;>(rename_i hs;simp[hs,cnd]))))⟩,rfl⟩)
 intro g w2 hb hR;simp only[List.length_cons,List.length_nil,Nat.reduceAdd]at hR
 have e0:(MapR w1.heap.size (rowsOf shapeL).toArray shapeL.length) (g 11) w2:=yr hR 0
 obtain⟨bm,em,e0,fm⟩:=e0
 have e1:=yv hR 1
 have e2:=yv hR 2
 have e3:=yv hR 3
 have e4:=yv hR 4
 have e5:=yv hR 5
 have e6:=yv hR 6
 obtain⟨b7,p7,e7,c7⟩:=rat_ptr (allR_get hR (j:=7) (by decide)) rfl rfl
 clear hR;simp only[fillD,fLa,fLb,sTa,sTb]
 simp only[e0,e1,e2,e3,e4,e5,e6,e7]
 clear e0 e1 e2 e3 e4 e5 e6 e7
 replace hL:=hL.gain hb p7 c7
 clear p7 c7
 clear hb
 go_wp2_with (first|(with_reducible first|refine lld hL ?_|((first|refine lbx hL ?_|refine lal hL ?_|refine lbs hL ?_);clear hL;intro bl w1 hL)|(refine lst' hL ?_;clear hL;intro w1 hL)))
 (try simp only[Exit.inBlock,Exit.then]);refine rt1 ?_
 exact⟨rfl,hL.below⟩
def getC (i:Ins) (c:Int):Int:=if c=118 then i.to else if c=97 then i.a else if c=98 then i.b else if c=103 then i.goto else i.n
theorem getC_at (i:Ins) (c:Int):i.cells[offC c]? = some (.int .i64 (getC i c)):=by
 unfold offC getC
 by_cases h1:c=118
 ·simp[h1]
 ·by_cases h2:c=97
  ·simp[h2]
  ·by_cases h3:c=98
   ·simp[h3]
   ·by_cases h4:c=103
    ·simp[h4]
    ·simp[h1,h2,h3,h4]
def zeroC (i:Ins) (c:Int):Ins:=if c=118 then { i with to:=0 } else if c=97 then { i with a:=0 } else if c=98 then { i with b:=0 } else if c=103 then { i with goto:=0 } else { i with n:=0 }
theorem zeroC_at (i:Ins) (c:Int):spliced i.cells (offC c) [.int .i64 0]=(zeroC i c).cells:=by
 unfold offC zeroC
 by_cases h1:c=118
 ·simp[h1,spliced]
 ·by_cases h2:c=97
  ·simp[h2,spliced]
  ·by_cases h3:c=98
   ·simp[h3,spliced]
   ·by_cases h4:c=103
    ·simp[h4,spliced]
    ·simp[h1,h2,h3,h4,spliced]
def letter (ns:ByteArray) (k:Nat):Int:=((ns.data.toList.getD k 0).toNat:Int)
theorem letter_eq {ns:ByteArray}{k:Nat}(h:k<ns.size):((ns[k]'h).toNat:Int)=letter ns k:=by
 have h2:k<ns.data.size:=h
 simp only[letter,List.getD,Array.getElem?_toList,Array.getElem?_eq_getElem h2,Option.getD_some]
 rfl
def restOf (ns:ByteArray) (i:Ins):Nat→Ins
 | 0=>i
 | k+1=>zeroC (restOf ns i k) (letter ns k)
def allNamed (p:Pg) (i:Ins) (ns:ByteArray) (k:Nat):Prop:=∀ j,j<k→namedB p (letter ns j) (getC i (letter ns j))=true
def allFine (i:Ins) (ns:ByteArray) (k:Nat):Prop:=∀ j,j<k→fineB (letter ns j) (getC i (letter ns j))=true
theorem offC_lt (c:Int):offC c+1≤6:=by unfold offC;split;omega;split;omega;split;omega;split<;>omega
end Go.Proofs.YtplcndmdkabmeaaGreatDoor
set_option linter.unusedSimpArgs false
set_option linter.unusedVariables false
namespace Go.Proofs.YtplcndmdkabmeaaGreatDoor
open Go.RowKit
theorem few {k n:Nat}(h:k<n) (hn:n≤3):k=0∨k=1∨k=2:=by omega
theorem none_of {p:Pg}{i:Ins}(hb:betw i.kind 1 19=true) {k:Nat}(hk:k<(namesS i.kind).size) (h:namedB p (letter (namesS i.kind) k) (getC i (letter (namesS i.kind) k))=false):noneB p i=true:=by
 have h3:=few hk (names_few hb)
 obtain⟨kd,to,a,b,n,g⟩:=i
 dsimp only at hb hk h h3
 rcases kinds_of hb with rfl|rfl|rfl|rfl|rfl|rfl|rfl|rfl|rfl|rfl|rfl|rfl|rfl|rfl|rfl|rfl|rfl|rfl|rfl<;>rcases h3 with rfl|rfl|rfl<;>
  first
   | (exact absurd hk (by decide))
   | (simp[letter,namesS,namesL,namedB,getC]at h;done)
   | (simp[letter,namesS,namesL,namedB,getC,betw]at h;simp[noneB,nTo,nA,nB,nGoto,betw];omega)
theorem not_none {p:Pg}{i:Ins}(hb:betw i.kind 1 19=true) (h:allNamed p i (namesS i.kind) (namesS i.kind).size):noneB p i=false:=by
 have h0:=h 0
 have h1:=h 1
 have h2:=h 2
 clear h
 obtain⟨kd,to,a,b,n,g⟩:=i
 dsimp only at hb h0 h1 h2
 rcases kinds_of hb with rfl|rfl|rfl|rfl|rfl|rfl|rfl|rfl|rfl|rfl|rfl|rfl|rfl|rfl|rfl|rfl|rfl|rfl|rfl<;>
  ((try simp[letter,namesS,namesL,namedB,getC,ByteArray.size,betw]at h0);(try simp[letter,namesS,namesL,namedB,getC,ByteArray.size,betw]at h1);(try simp[letter,namesS,namesL,namedB,getC,ByteArray.size,betw]at h2);(simp[noneB,nTo,nA,nB,nGoto,betw]);(try omega))
theorem range_of {i:Ins}(hb:betw i.kind 1 19=true) {k:Nat}(hk:k<(namesS i.kind).size) (h:fineB (letter (namesS i.kind) k) (getC i (letter (namesS i.kind) k))=false):rangeB i=true:=by
 have h3:=few hk (names_few hb)
 obtain⟨kd,to,a,b,n,g⟩:=i
 dsimp only at hb hk h h3
 rcases kinds_of hb with rfl|rfl|rfl|rfl|rfl|rfl|rfl|rfl|rfl|rfl|rfl|rfl|rfl|rfl|rfl|rfl|rfl|rfl|rfl<;>rcases h3 with rfl|rfl|rfl<;>
  first
   | (exact absurd hk (by decide))
   | (simp[letter,namesS,namesL,fineB,getC]at h;done)
   | (simp[letter,namesS,namesL,fineB,getC,betw]at h;simp[rangeB,betw];omega)
theorem not_range {i:Ins}(hb:betw i.kind 1 19=true) (h:allFine i (namesS i.kind) (namesS i.kind).size):rangeB i=false:=by
 have h0:=h 0
 have h1:=h 1
 have h2:=h 2
 clear h
 obtain⟨kd,to,a,b,n,g⟩:=i
 dsimp only at hb h0 h1 h2
 rcases kinds_of hb with rfl|rfl|rfl|rfl|rfl|rfl|rfl|rfl|rfl|rfl|rfl|rfl|rfl|rfl|rfl|rfl|rfl|rfl|rfl<;>
  ((try simp[letter,namesS,namesL,fineB,getC,ByteArray.size,betw]at h0);(try simp[letter,namesS,namesL,fineB,getC,ByteArray.size,betw]at h1);(try simp[letter,namesS,namesL,fineB,getC,ByteArray.size,betw]at h2);(simp[rangeB,betw]);(try omega))
theorem form_iff {i:Ins}(hb:betw i.kind 1 19=true):formB i=false↔restOf (namesS i.kind) i (namesS i.kind).size=⟨i.kind,0,0,0,0,0⟩:=by
 obtain⟨kd,to,a,b,n,g⟩:=i
 dsimp only at hb
 rcases kinds_of hb with rfl|rfl|rfl|rfl|rfl|rfl|rfl|rfl|rfl|rfl|rfl|rfl|rfl|rfl|rfl|rfl|rfl|rfl|rfl<;>
  (simp[namesS,namesL,ByteArray.size,restOf,letter,zeroC,formB,nTo,nA,nB,nN,nGoto,betw];(try omega))
theorem err5 {p:Pg}{i:Ins}(hb:betw i.kind 1 19=true):∀ k,k<(namesS i.kind).size→namedB p (letter (namesS i.kind) k) (getC i (letter (namesS i.kind) k))=false→checkOne p i=5:=fun k hk h=>by
 simp[checkOne,hb,none_of hb hk h]
theorem err3 {p:Pg}{i:Ins}(hb:betw i.kind 1 19=true):allNamed p i (namesS i.kind) (namesS i.kind).size→∀ k,k<(namesS i.kind).size→fineB (letter (namesS i.kind) k) (getC i (letter (namesS i.kind) k))=false→checkOne p i=3:=fun hn k hk h=>by
 simp[checkOne,hb,not_none hb hn,range_of hb hk h]
theorem err1 {p:Pg}{i:Ins}(hb:betw i.kind 1 19=true):allNamed p i (namesS i.kind) (namesS i.kind).size→allFine i (namesS i.kind) (namesS i.kind).size→restOf (namesS i.kind) i (namesS i.kind).size≠⟨i.kind,0,0,0,0,0⟩→checkOne p i=1:=fun hn hr hf=>by
 have:formB i=true:=by
  cases h:formB i with
  | true=>rfl
  | false=>exact absurd ((form_iff hb).1 h) hf
 simp[checkOne,hb,not_none hb hn,not_range hb hr,this]
theorem err0 {p:Pg}{i:Ins}(hb:betw i.kind 1 19=true):allNamed p i (namesS i.kind) (namesS i.kind).size→allFine i (namesS i.kind) (namesS i.kind).size→restOf (namesS i.kind) i (namesS i.kind).size=⟨i.kind,0,0,0,0,0⟩→checkOne p i=0:=fun hn hr hf=>by
 simp[checkOne,hb,not_none hb hn,not_range hb hr,(form_iff hb).2 hf]
theorem one_yes (p:Pg) (i:Ins) (hb:betw i.kind 1 19=true) (hp:Small p) (w:World):
  Calls Tryz.prog 86 #[p.v,i.v] w fun e w'=>e=.returned (.int .i64 (checkOne p i))∧Below w.heap.size w w':=by
 obtain⟨wd,hlk⟩:=look_yes hb
 have hfew:=names_few hb
 have h5:=err5 (p:=p) hb
 have h3:=err3 (p:=p) hb
 have h1:=err1 (p:=p) hb
 have h0:=err0 (p:=p) hb
 generalize namesS i.kind=ns at hlk hfew h5 h3 h1 h0
 have H5:=Lib.hid h5
 have H3:=Lib.hid h3
 have H1:=Lib.hid h1
 have H0:=Lib.hid h0
 clear h5 h3 h1 h0
 have HLK:=Lib.hid hlk
 have HB:=Lib.hid hb
 obtain⟨v1,v2,f1,f2,n1⟩:=hp
 clear hlk hb
 have hL:=Loc.start w
 go_enter Tryz.func86,Tryz.ntmps86
 go_step
 go_step
 go_step
 ((with_reducible refine lbx hL ?_);clear hL;intro b2 w1 hL)
 ((with_reducible refine lbx hL ?_);clear hL;intro b3 w1 hL)
 go_upto_region 1 with(first|(with_reducible first|refine lld hL ?_|((first|refine lbx hL ?_|refine lal hL ?_|refine lbs hL ?_);clear hL;intro bl w1 hL)|(refine lst' hL ?_;clear hL;intro w1 hL)))
 refine draw_begin [11,12,13,14,10,15,16,5] ?_
 refine draw_next (MapR w1.heap.size (rowsOf shapeL).toArray shapeL.length) MapR.stable ?_ ?_
 ·intro g w hb y;replace hL:=hL.grow hb;clear y;simp only[fillD,fLa,fLb,sTa,sTb]
  go_wp2_with (go_at_call 116;refine(shapes_any _).mono ?_;rintro e w3 ⟨b,rfl,hge,hm,hb3⟩;dsimp only)
  exact⟨rfl,_,rfl,hb3,b,Nat.le_trans hb.size hge,rfl,hm⟩
 simp only[apN,apC]
 refine dv0 ?_
 refine dv1 1 ?_
 apply draw_val
 ·intro g w hb y;replace hL:=hL.grow hb;have d0:(MapR w1.heap.size (rowsOf shapeL).toArray shapeL.length) (g 11) w:=yr y 0;obtain⟨bm,em,d0,fm⟩:=d0;have d2:=yv y 2;clear y;simp only[fillD,fLa,fLb,sTa,sTb];simp only[d0,d2]
  refine map_lookup (v:=.tuple #[.agg #[.string wd,.string ns],.bool true]) mShapes hzs fm (by unfold lookVal;rw[HLK.out]) rfl rfl ?_
  exact cY
 simp only[apN,apC]
 refine dv1 3 ?_
 refine dv1 4 ?_
 refine dv1 4 ?_
 apply draw_ptr
 ·intro g w hb y;replace hL:=hL.grow hb;clear y;simp only[fillD,fLa,fLb,sTa,sTb]
  go_wp2
  exact⟨rfl,_,rfl,(Below.refl _ _).alloc (Nat.le_refl _) _,_,hb.size,rfl,heap_new _ _⟩
 simp only[apN,apC]
 refine draw_end1 6 hL (by kernel_rfl) (by kernel_rfl) (fun _ _ _ _ _ h=>h) ?_ ?_
 ·(refine late_ok rfl rfl ?_;intro g w hb y;(try simp[depsOf,List.filter_cons,Region.binds,AllR,RAt]at y);simp only[fillD,List.foldl_cons,List.foldl_nil,List.set_cons_succ,List.set_cons_zero];(try simp only[y]);exact⟨_,.inl ⟨rfl,fun w=>(by go_simp<;>(try (split<;>(rename_i hs;simp[hs,cnd]))))⟩,rfl⟩)
 intro g w2 hb hR;simp only[List.length_cons,List.length_nil,Nat.reduceAdd]at hR
 have e0:(MapR w1.heap.size (rowsOf shapeL).toArray shapeL.length) (g 11) w2:=yr hR 0
 obtain⟨bm,em,e0,fm⟩:=e0
 have e1:=yv hR 1
 have e2:=yv hR 2
 have e3:=yv hR 3
 have e4:=yv hR 4
 have e5:=yv hR 5
 have e6:=yv hR 6
 obtain⟨b7,p7,e7,c7⟩:=rat_ptr (allR_get hR (j:=7) (by decide)) rfl rfl
 clear hR;simp only[fillD,fLa,fLb,sTa,sTb]
 simp only[e0,e1,e2,e3,e4,e5,e6,e7]
 clear e0 e1 e2 e3 e4 e5 e6 e7
 replace hL:=hL.gain hb p7 c7
 clear p7 c7
 clear hb
 go_upto_region 5 with(first|(with_reducible first|refine lld hL ?_|((first|refine lbx hL ?_|refine lal hL ?_|refine lbs hL ?_);clear hL;intro bl w1 hL)|(refine lst' hL ?_;clear hL;intro w1 hL)))
 obtain⟨bR,hbR⟩:∃ x,x=bl:=⟨_,rfl⟩
 subst hbR
 go_wp2_with (first|(with_reducible first|refine lld hL ?_|((first|refine lbx hL ?_|refine lal hL ?_|refine lbs hL ?_);clear hL;intro bl w1 hL)|(refine lst' hL ?_;clear hL;intro w1 hL)))
 go_loopw [23] (fun c wr=>∃ k:Nat,k≤ns.size∧c=.int .i64 k∧allNamed p i ns k∧Loc w wr [(bR,86,i.cells),(b7,162,[.string wd,.string ns]),(b3,86,i.cells),(b2,27,[.int .i64 p.vars,.int .i64 p.fields,.slice p.pc p.n p.cap])] []) (fun c _=>ns.size - (intOf c).toNat)
 case atStart=>exact⟨0,Nat.zero_le _,rfl,fun j hj=>absurd hj (by omega),hL⟩
 case round=>
  obtain⟨k,hk,rfl,hnamed,hL⟩:=hrel
  have HN:=Lib.hid hnamed
  clear hnamed
  by_cases hlt:k<ns.size
  ·go_upto_region 8 with(first|(with_reducible first|refine lld hL ?_|((first|refine lbx hL ?_|refine lal hL ?_|refine lbs hL ?_);clear hL;intro bl w1 hL)|(refine lst' hL ?_;clear hL;intro w1 hL)))
   refine draw_begin [26,27,28,29,30,31,32,33,34,35,36,37,38,39] ?_
   refine dv0 ?_
   refine dv0 ?_
   refine dv1 1 ?_
   refine dv0 ?_
   refine dv2 2 3 ?_
   refine dv0 ?_
   refine dv1 5 ?_
   refine dv0 ?_
   refine dv2 6 7 ?_
   apply draw_val
   ·intro g w hb y;replace hL:=hL.grow hb;have d8:=yv y 8;clear y;simp only[fillD,fLa,fLb,sTa,sTb];simp only[d8]
    go_wp2_with (go_at_call 117;refine(part_any b3 _ _).mono ?_;rintro e w' ⟨rfl,rfl⟩;dsimp only)
    exact⟨rfl,_,rfl,Below.refl _ _,rfl⟩
   simp only[apN,apC]
   refine dv1 9 ?_
   apply draw_val
   ·intro g w hb y;replace hL:=hL.grow hb;have d10:=yv y 10;clear y;simp only[fillD,fLa,fLb,sTa,sTb];simp only[d10]
    refine loc_load (b:=b3) hL rfl rfl cIn (Reads.cell tInt (getC_at i _)) ?_
    exact cY
   simp only[apN,apC]
   apply draw_val
   ·intro g w hb y;replace hL:=hL.grow hb;have d0:=yv y 0;have d4:=yv y 4;have d11:=yv y 11;clear y;simp only[fillD,fLa,fLb,sTa,sTb];simp only[d0,d4,d11]
    go_wp2_with (go_at_call 133;refine(named_any p _ _ v1 v2 f1 f2 _).mono ?_;rintro e w3 ⟨rfl,hb3⟩;dsimp only)
    exact⟨rfl,_,rfl,hb3,rfl⟩
   simp only[apN,apC]
   refine dv1 12 ?_
   refine dnd hL ?_
   clear hL;intro w2 hL;simp only[fillX,sTa,sTb]
   simp only[letter_eq hlt]
   cases hN:namedB p (letter ns k) (getC i (letter ns k)) with
   | false=>
    have HN1:=Lib.hid hN
    clear hN
    go_wp2
    (try simp only[Exit.inBlock,Exit.then]);refine rt1 ?_
    exact⟨by rw[H5.out k hlt HN1.out];rfl,hL.below⟩
   | true=>
    have HN1:=Lib.hid hN
    clear hN
    go_wp2
    go_roundw
    case rel=>
     refine⟨k+1,by omega,by go_num,fun j hj=>?_,hL⟩
     rcases Nat.lt_or_ge j k with h|h
     ·exact HN.out j h
     ·obtain rfl:j=k:=by omega
      exact HN1.out
    case measure=>simp[intOf];omega
  ·obtain rfl:k=ns.size:=by omega
   clear hk hlt
   go_wp2_with (first|(with_reducible first|refine lld hL ?_|((first|refine lbx hL ?_|refine lal hL ?_|refine lbs hL ?_);clear hL;intro bl w1 hL)|(refine lst' hL ?_;clear hL;intro w1 hL)))
   go_loopw [44] (fun c wr=>∃ k:Nat,k≤ns.size∧c=.int .i64 k∧allFine i ns k∧Loc w wr [(bR,86,(restOf ns i k).cells),(b7,162,[.string wd,.string ns]),(b3,86,i.cells),(b2,27,[.int .i64 p.vars,.int .i64 p.fields,.slice p.pc p.n p.cap])] []) (fun c _=>ns.size - (intOf c).toNat)
   case atStart=>exact⟨0,Nat.zero_le _,rfl,fun j hj=>absurd hj (by omega),hL⟩
   case round=>
    obtain⟨k,hk,rfl,hfine,hL⟩:=hrel
    have HG:=Lib.hid hfine
    clear hfine
    by_cases hlt:k<ns.size
    ·go_upto_region 14 with(first|(with_reducible first|refine lld hL ?_|((first|refine lbx hL ?_|refine lal hL ?_|refine lbs hL ?_);clear hL;intro bl w1 hL)|(refine lst' hL ?_;clear hL;intro w1 hL)))
     refine draw_begin [47,48,49,50,51,52,53,54,55,56,57,58,59] ?_
     refine dv0 ?_
     refine dv1 0 ?_
     refine dv0 ?_
     refine dv2 1 2 ?_
     refine dv0 ?_
     refine dv1 4 ?_
     refine dv0 ?_
     refine dv2 5 6 ?_
     apply draw_val
     ·intro g w hb y;replace hL:=hL.grow hb;have d7:=yv y 7;clear y;simp only[fillD,fLa,fLb,sTa,sTb];simp only[d7]
      go_wp2_with (go_at_call 117;refine(part_any b3 _ _).mono ?_;rintro e w' ⟨rfl,rfl⟩;dsimp only)
      exact⟨rfl,_,rfl,Below.refl _ _,rfl⟩
     simp only[apN,apC]
     refine dv1 8 ?_
     apply draw_val
     ·intro g w hb y;replace hL:=hL.grow hb;have d9:=yv y 9;clear y;simp only[fillD,fLa,fLb,sTa,sTb];simp only[d9]
      refine loc_load (b:=b3) hL rfl rfl cIn (Reads.cell tInt (getC_at i _)) ?_
      exact cY
     simp only[apN,apC]
     apply draw_val
     ·intro g w hb y;replace hL:=hL.grow hb;have d3:=yv y 3;have d10:=yv y 10;clear y;simp only[fillD,fLa,fLb,sTa,sTb];simp only[d3,d10]
      go_wp2_with (go_at_call 134;refine(fine_any _ _ _).mono ?_;rintro e w' ⟨rfl,rfl⟩;dsimp only)
      exact⟨rfl,_,rfl,Below.refl _ _,rfl⟩
     simp only[apN,apC]
     refine dv1 11 ?_
     refine dnd hL ?_
     clear hL;intro w2 hL;simp only[fillX,sTa,sTb]
     simp only[letter_eq hlt]
     cases hN:fineB (letter ns k) (getC i (letter ns k)) with
     | false=>
      have HN1:=Lib.hid hN
      clear hN
      go_wp2
      (try simp only[Exit.inBlock,Exit.then]);refine rt1 ?_
      exact⟨by rw[H3.out HN.out k hlt HN1.out];rfl,hL.below⟩
     | true=>
      have HN1:=Lib.hid hN
      clear hN
      go_upto_region 16 with(fail)
      go_wp2_with (first|(refine loc_store (b:=bR) (vs:=[.int .i64 0]) (cs':=(zeroC (restOf ns i k) ((ns[k]'hlt).toNat:Int)).cells) hL want0 rfl cIn rfl tInt.sz rfl (offC_lt _) (zeroC_at _ _) ?_;clear hL;intro w1 hL)|(with_reducible first|refine lld hL ?_|((first|refine lbx hL ?_|refine lal hL ?_|refine lbs hL ?_);clear hL;intro bl w1 hL)|(refine lst' hL ?_;clear hL;intro w1 hL))|(go_at_call 117;refine(part_any bR _ _).mono ?_;rintro e w' ⟨rfl,rfl⟩;dsimp only))
      go_roundw
      case rel=>
       refine⟨k+1,by omega,by go_num,fun j hj=>?_,hL.conv (by rw[letter_eq hlt];rfl)⟩
       rcases Nat.lt_or_ge j k with h|h
       ·exact HG.out j h
       ·obtain rfl:j=k:=by omega
        exact HN1.out
      case measure=>simp[intOf];omega
    ·obtain rfl:k=ns.size:=by omega
     clear hk hlt
     have h1:=H1.out HN.out HG.out
     have h0:=H0.out HN.out HG.out
     generalize restOf ns i ns.size=r at h1 h0 hL
     obtain⟨rk,rt,ra,rb,rn,rg⟩:=r
     by_cases hr:(⟨rk,rt,ra,rb,rn,rg⟩:Ins)=⟨i.kind,0,0,0,0,0⟩
     ·have HF:=Lib.hid (h0 hr)
      simp only[Ins.mk.injEq]at hr
      obtain⟨rfl,rfl,rfl,rfl,rfl,rfl⟩:=hr
      clear h1 h0
      go_wp2_with (first|(with_reducible first|refine lld hL ?_|((first|refine lbx hL ?_|refine lal hL ?_|refine lbs hL ?_);clear hL;intro bl w1 hL)|(refine lst' hL ?_;clear hL;intro w1 hL)))
      (try simp only[Exit.inBlock,Exit.then]);refine rt1 ?_
      exact⟨by rw[HF.out];rfl,hL.below⟩
     ·have HF:=Lib.hid (h1 hr)
      have HR:=Lib.hid hr
      clear h1 h0 hr
      go_wp2_with (first|(with_reducible first|refine lld hL ?_|((first|refine lbx hL ?_|refine lal hL ?_|refine lbs hL ?_);clear hL;intro bl w1 hL)|(refine lst' hL ?_;clear hL;intro w1 hL)))
      all_goals
       (try simp only[Exit.inBlock,Exit.then]);refine rt1 ?_
       first
        | exact⟨by rw[HF.out];rfl,hL.below⟩
        | (exfalso;refine HR.out ?_;simp_all;done)
theorem one_any (p:Pg) (i:Ins) (hp:Small p) (w:World):
  Calls Tryz.prog 86 #[p.v,i.v] w fun e w'=>e=.returned (.int .i64 (checkOne p i))∧Below w.heap.size w w':=by
 cases hb:betw i.kind 1 19 with
 | true=>exact one_yes p i hb hp w
 | false=>
  have h:=one_no p i hb w
  rw[show checkOne p i=6 by simp[checkOne,hb]]
  exact h
end Go.Proofs.YtplcndmdkabmeaaGreatDoor
