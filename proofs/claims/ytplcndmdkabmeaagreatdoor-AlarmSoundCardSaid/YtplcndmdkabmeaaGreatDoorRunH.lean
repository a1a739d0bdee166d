/-  -/
import Derived.Test.YtplcndmdkabmeaaGreatDoorDat
import Derived.Test.YtplcndmdkabmeaaGreatDoorEnd0
set_option linter.unusedSimpArgs false
set_option linter.unusedVariables false
set_option maxRecDepth 100000
set_option maxHeartbeats 8000000
namespace Go.Proofs.YtplcndmdkabmeaaGreatDoor
open Go.RowKit
structure Fits (s:Rs):Prop where
 v:s.vars.length≤8
 t:s.things.length≤100
 f:∀ k,(s.thing k).2.length≤3
 l:s.lines.length*16≤140737488351232
def FieldR (B m:Nat) (l:List Vl):Value→World→Prop:=fun v w=>∃ p cap R,v=.slice p m cap∧RowS 77 2 p m cap (flatV l) R∧Own B w R
theorem FieldR.stable {B m:Nat}{l:List Vl}:Stable (FieldR B m l):=by
 rintro v w w' hb ⟨p,cap,R,h1,h2,h3⟩;exact⟨p,cap,R,h1,h2,h3.grow hb⟩
def ThingR (B m:Nat) (site:Int) (l:List Vl):Value→World→Prop:=fun v w=>∃ p cap R,v=.agg #[.int .i64 site,.slice p m cap]∧RowS 77 2 p m cap (flatV l) R∧Own B w R
theorem ThingR.stable {B m:Nat}{site:Int}{l:List Vl}:Stable (ThingR B m site l):=by
 rintro v w w' hb ⟨p,cap,R,h1,h2,h3⟩;exact⟨p,cap,R,h1,h2,h3.grow hb⟩
def RowTR (B m:Nat) (site:Int) (l:List Vl):Value→World→Prop:=fun v w=>∃ p cap R b,v=.slice (some ⟨b,0,none⟩) 1 1∧RowS 77 2 p m cap (flatV l) R∧Own B w R∧w.heap[b]? = some (.cells #[.int .i64 site,.slice p m cap] 79 (0,0))
theorem RowTR.stable {B m:Nat}{site:Int}{l:List Vl}:Stable (RowTR B m site l):=by
 rintro v w w' hb ⟨p,cap,R,b,h1,h2,h3,h4⟩;exact⟨p,cap,R,b,h1,h2,h3.grow hb,(hb.block _ (heap_lt h4)).trans h4⟩
theorem RowS.types {E size:Nat}{p:Option Addr}{n cap:Nat}{xs:List Value}{R:List LBlk}(h:RowS E size p n cap xs R):∀ e∈R,e.2.1=E:=by
 intro e he
 rcases h.2 with⟨_,_,hR⟩|⟨g,cs,_,hR,_⟩
 ·subst hR;cases he
 ·subst hR;rw[List.mem_singleton.1 he]
theorem Own.apart {B:Nat}{w:World}{R R' : List LBlk}(h:Own B w R) (h' : Own B w R') {E E' : TypeId}(hE:∀ e∈R,e.2.1=E) (hE' : ∀ e∈R',e.2.1=E') (hne:E≠E'):Own B w (R++R'):=by
 refine⟨?_,fun e he=>?_⟩
 ·rw[List.map_append,List.nodup_append]
  refine⟨h.nodup,h'.nodup,fun a ha b hb hab=>?_⟩
  subst hab
  obtain⟨e,he,hee⟩:=List.mem_map.1 ha
  obtain⟨e',he',hee'⟩:=List.mem_map.1 hb
  have h1:=(h.at' e he).2
  have h2:=(h'.at' e' he').2
  rw[hee]at h1
  rw[hee',h1]at h2
  simp only[Option.some.injEq,Obj.cells.injEq]at h2
  exact hne ((hE e he).symm.trans (h2.2.1.trans (hE' e' he')))
 ·rcases List.mem_append.1 he with he|he
  ·exact h.at' e he
  ·exact h'.at' e he
def LinesR (B m:Nat) (l:List ByteArray):Value→World→Prop:=fun v w=>∃ p cap R,v=.slice p m cap∧RowS 9 1 p m cap (flatL l) R∧Own B w R
theorem LinesR.stable {B m:Nat}{l:List ByteArray}:Stable (LinesR B m l):=by
 rintro v w w' hb ⟨p,cap,R,h1,h2,h3⟩;exact⟨p,cap,R,h1,h2,h3.grow hb⟩
theorem own_any (r:Rn) (s:Rs) (w:World) (hr:RunIs w r s) (hf:Fits s):
  Calls Tryz.prog 63 #[r.v] w fun e w'=>Gives w s e w':=by
 obtain⟨⟨ths,hr,hth⟩,ha,ht,he,hv,hn,hl⟩:=hr
 obtain⟨ba,oa,hpa,hca⟩:=hr.things.ex
 have HV:=Lib.hid (fun w' (hw:Below w.heap.size w w')=>cloneValues r.vars.p r.vars.n r.vars.cap s.vars w' (hr.vars.grow hw) hv (by have:=hf.v;omega))
 have HL:=Lib.hid (fun w' (hw:Below w.heap.size w w')=>cloneLines r.lines.p r.lines.n r.lines.cap s.lines w' (hr.lines.grow hw) hl (by have:=hf.l;omega))
 have HF:=Lib.hid (fun k (hk:k<r.things.n) w' (hw:Below w.heap.size w w')=>cloneValues (ths k).fs.p (ths k).fs.n (ths k).fs.cap (s.thing k).2 w' ((hr.fields k hk).2.grow hw) (hth k (by omega)).2 (by have:=hf.f k;have:=(hth k (by omega)).2;omega))
 have HT:=Lib.hid hth
 have HP:=Lib.hid hpa
 have HC:=Lib.hid hca
 have HB:=Lib.hid (And.intro hf (And.intro ha (And.intro ht (And.intro he (And.intro hv (And.intro hn hl))))))
 have hmx:maxLen=9223372036854775807:=rfl
 have HM:=Lib.hid hmx
 have hn2:=hr.n2
 clear hr hth ha ht he hv hn hl hf hpa hca hmx
 have hL:=Loc.start w
 go_enter Tryz.func63,Tryz.ntmps63
 go_step
 go_step
 go_step
 ((with_reducible refine lbx hL ?_);clear hL;intro b1 w1 hL)
 go_upto_region 1 with(first|(with_reducible first|refine lld hL ?_|((first|refine lbx hL ?_|refine lal hL ?_|refine lbs hL ?_);clear hL;intro bl w1 hL)|(refine lst' hL ?_;clear hL;intro w1 hL)))
 obtain⟨b2,hb2⟩:∃ x,x=bl:=⟨_,rfl⟩
 subst hb2
 obtain⟨wq,hwq⟩:∃ x,x=w1:=⟨_,rfl⟩
 subst hwq
 refine draw_begin [6,7,8,9,10,11,12] ?_
 refine dv0 ?_
 refine dv1 0 ?_
 refine draw_next (FieldR wq.heap.size r.vars.n s.vars) FieldR.stable ?_ ?_
 ·intro g w hb y;replace hL:=hL.grow hb;have d1:=yv y 1;clear y;simp only[fillD,fLa,fLb,sTa,sTb];simp only[d1]
  go_wp2_with (go_at_call 108;refine(HV.out _ hL.below).mono ?_;rintro e w3 ⟨p3,c3,R3,rfl,hS3,hO3,hb3⟩;dsimp only)
  exact⟨rfl,_,rfl,hb3,_,_,_,rfl,hS3,hO3.mono hb.size⟩
 simp only[apN,apC]
 refine dv0 ?_
 refine dv1 3 ?_
 refine draw_next (LinesR wq.heap.size r.lines.n s.lines) LinesR.stable ?_ ?_
 ·intro g w hb y;replace hL:=hL.grow hb;have d4:=yv y 4;clear y;simp only[fillD,fLa,fLb,sTa,sTb];simp only[d4]
  go_wp2_with (go_at_call 109;refine(HL.out _ hL.below).mono ?_;rintro e w3 ⟨p3,c3,R3,rfl,hS3,hO3,hb3⟩;dsimp only)
  exact⟨rfl,_,rfl,hb3,_,_,_,rfl,hS3,hO3.mono hb.size⟩
 simp only[apN,apC]
 refine dv0 ?_
 refine draw_end hL (by kernel_rfl) (by kernel_rfl) ?_
 intro g w2 hb hR;simp only[List.length_cons,List.length_nil,Nat.reduceAdd]at hR
 have e0:=yv hR 0
 have e1:=yv hR 1
 have e2:(FieldR wq.heap.size r.vars.n s.vars) (g 8) w2:=yr hR 2
 obtain⟨pv,cv,Rv,e2,hSv,hOv⟩:=e2
 have e3:=yv hR 3
 have e4:=yv hR 4
 have e5:(LinesR wq.heap.size r.lines.n s.lines) (g 11) w2:=yr hR 5
 obtain⟨pl,cl,Rl,e5,hSl,hOl⟩:=e5;have hL2:=hL.gainTail hb (hOv.apart hOl hSv.types hSl.types (by decide));clear hOv hOl
 have e6:=yv hR 6
 clear hR;simp only[fillD,fLa,fLb,sTa,sTb]
 simp only[e0,e1,e2,e3,e4,e5,e6]
 clear e0 e1 e2 e3 e4 e5 e6
 replace hL:=hL.grow hb
 clear hb
 replace hL:=hL2
 clear hL2
 simp only[List.cons_append,List.nil_append]at hL
 have HS:=Lib.hid (And.intro hSv hSl)
 clear hSv hSl
 go_wp2_with (first|(with_reducible first|refine lld hL ?_|((first|refine lbx hL ?_|refine lal hL ?_|refine lbs hL ?_);clear hL;intro bl w1 hL)|(refine lst' hL ?_;clear hL;intro w1 hL)))
 go_loopw [3,17] (fun c3 c4 wr=>∃ (k:Nat) (p3:Option Addr) (cap3:Nat) (ts:List Th) (Rt Rf:List LBlk),k≤r.things.n∧c3=.slice p3 k cap3∧c4=.int .i64 k∧RowS 79 2 p3 k cap3 (flatT ts) Rt∧FRows ts (s.things.take k) Rf∧Loc w wr ((b2,46,[.int .i64 0,.slice none 0 0,.slice none 0 0,.int .i64 0,.slice none 0 0,.int .i64 0])::(b1,46,[.int .i64 r.at',.slice pv r.vars.n cv,.slice r.things.p r.things.n r.things.cap,.int .i64 r.taken,.slice pl r.lines.n cl,.int .i64 r.ending])::(Rv++(Rl++(Rf++Rt)))) []) (fun _ c _=>r.things.n - (intOf c).toNat)
 case atStart=>exact⟨0,none,0,[],[],[],Nat.zero_le _,rfl,rfl,RowS.nil,.nil,by simpa using hL⟩
 case round=>
  obtain⟨k,p3,cap3,ts,Rt,Rf,hk,rfl,rfl,hSt,hFr,hL⟩:=hrel
  have HX:=Lib.hid (And.intro hSt hFr)
  clear hSt hFr
  by_cases hlt:k<r.things.n
  ·have HP2:=Lib.hid (HP.out (by omega))
   have HR:=Lib.hid (show ReadsAt Tryz.prog 79 w ba (oa+k*2) (.agg #[.int .i64 (ths k).site,.slice (ths k).fs.p (ths k).fs.n (ths k).fs.cap]) from ReadsAt.agg tThing (HC.out k hlt).1 (HC.out k hlt).2 rfl)
   have HFk:=Lib.hid (HF.out k hlt)
   have hth:=HT.out k (by have:=HB.out.2.2.2.2.2.1;omega)
   have HTk:=Lib.hid hth
   clear hth
   go_upto_region 5 with(first|(with_reducible first|refine lld hL ?_|((first|refine lbx hL ?_|refine lal hL ?_|refine lbs hL ?_);clear hL;intro bl w1 hL)|(refine lst' hL ?_;clear hL;intro w1 hL)))
   go_step
   simp only[HP2.out]
   go_upto_region 6 with(first|(with_reducible first|refine lld hL ?_|((first|refine lbx hL ?_|refine lal hL ?_|refine lbs hL ?_);clear hL;intro bl w1 hL)|(refine lst' hL ?_;clear hL;intro w1 hL))|refine loc_loadB HR.out hL rfl rfl ?_)
   obtain⟨b5,hb5⟩:∃ x,x=bl:=⟨_,rfl⟩
   subst hb5
   obtain⟨wq,hwq⟩:∃ x,x=w1:=⟨_,rfl⟩
   subst hwq
   refine draw_begin [21,22,23,24,25,26,27,28] ?_
   refine dv0 ?_
   refine dv0 ?_
   refine dv1 1 ?_
   refine dv0 ?_
   refine dv1 3 ?_
   refine draw_next (FieldR wq.heap.size (ths k).fs.n (s.thing k).2) FieldR.stable ?_ ?_
   ·intro g w hb y;replace hL:=hL.grow hb;have d4:=yv y 4;clear y;simp only[fillD,fLa,fLb,sTa,sTb];simp only[d4]
    go_wp2_with (go_at_call 108;refine(HFk.out _ hL.below).mono ?_;rintro e w3 ⟨p3,c3,R3,rfl,hS3,hO3,hb3⟩;dsimp only)
    exact⟨rfl,_,rfl,hb3,_,_,_,rfl,hS3,hO3.mono hb.size⟩
   simp only[apN,apC]
   refine draw_next (ThingR wq.heap.size (ths k).fs.n (ths k).site (s.thing k).2) ThingR.stable ?_ ?_
   ·intro g w hb y;replace hL:=hL.grow hb;have d2:=yv y 2;have d5:(FieldR wq.heap.size (ths k).fs.n (s.thing k).2) (g 26) w:=yr y 5;obtain⟨q5,c5,R5,d5,hS5,hO5⟩:=d5;clear y;simp only[fillD,fLa,fLb,sTa,sTb];simp only[d2,d5]
    go_wp2_with (fail)
    exact⟨rfl,_,rfl,Below.refl _ _,_,_,_,rfl,hS5,hO5⟩
   simp only[apN,apC]
   refine draw_next (RowTR wq.heap.size (ths k).fs.n (ths k).site (s.thing k).2) RowTR.stable ?_ ?_
   ·intro g w hb y;replace hL:=hL.grow hb;have d6:(ThingR wq.heap.size (ths k).fs.n (ths k).site (s.thing k).2) (g 27) w:=yr y 6;obtain⟨q6,c6,R6,d6,hS6,hO6⟩:=d6;clear y;simp only[fillD,fLa,fLb,sTa,sTb];simp only[d6]
    go_wp2_with (fail)
    exact⟨rfl,_,rfl,(Below.refl _ _).alloc (Nat.le_refl _) _,_,_,_,_,rfl,hS6,hO6.grow ((Below.refl _ _).alloc (Nat.le_refl _) _),heap_new _ _⟩
   simp only[apN,apC]
   refine draw_end hL (by kernel_rfl) (by kernel_rfl) ?_
   intro g w2 hb hR;simp only[List.length_cons,List.length_nil,Nat.reduceAdd]at hR
   have e0:=yv hR 0
   have e1:=yv hR 1
   have e2:=yv hR 2
   have e3:=yv hR 3
   have e4:=yv hR 4
   have e5:(FieldR wq.heap.size (ths k).fs.n (s.thing k).2) (g 26) w2:=yr hR 5
   obtain⟨q5,c5,R5,e5,-,-⟩:=e5
   have e6:(ThingR wq.heap.size (ths k).fs.n (ths k).site (s.thing k).2) (g 27) w2:=yr hR 6
   obtain⟨q6,c6,R6,e6,-,-⟩:=e6
   have e7:(RowTR wq.heap.size (ths k).fs.n (ths k).site (s.thing k).2) (g 28) w2:=yr hR 7
   obtain⟨qf,cf,Rn,bf,e7,hSf,hOf,hHf⟩:=e7;have hL2:=hL.gainMid (K:=(b5,79,[.int .i64 (ths k).site,.slice (ths k).fs.p (ths k).fs.n (ths k).fs.cap])::(b2,46,[.int .i64 0,.slice none 0 0,.slice none 0 0,.int .i64 0,.slice none 0 0,.int .i64 0])::(b1,46,[.int .i64 r.at',.slice pv r.vars.n cv,.slice r.things.p r.things.n r.things.cap,.int .i64 r.taken,.slice pl r.lines.n cl,.int .i64 r.ending])::(Rv++(Rl++Rf))) (R:=Rt) (by simp only[List.cons_append,List.append_assoc]) hb hOf;clear hOf
   clear hR;simp only[fillD,fLa,fLb,sTa,sTb]
   simp only[e0,e1,e2,e3,e4,e5,e6,e7]
   clear e0 e1 e2 e3 e4 e5 e6 e7
   replace hL:=hL.grow hb
   clear hb
   replace hL:=hL2
   clear hL2
   go_wp2_with (first|(with_reducible first|refine lld hL ?_|((first|refine lbx hL ?_|refine lal hL ?_|refine lbs hL ?_);clear hL;intro bl w1 hL)|(refine lst' hL ?_;clear hL;intro w1 hL))|(refine loc_appendS (K:=(b5,79,[.int .i64 (ths k).site,.slice (ths k).fs.p (ths k).fs.n (ths k).fs.cap])::(b2,46,[.int .i64 0,.slice none 0 0,.slice none 0 0,.int .i64 0,.slice none 0 0,.int .i64 0])::(b1,46,[.int .i64 r.at',.slice pv r.vars.n cv,.slice r.things.p r.things.n r.things.cap,.int .i64 r.taken,.slice pl r.lines.n cl,.int .i64 r.ending])::(Rv++(Rl++(Rf++Rn)))) (R:=Rt) (news:=[.int .i64 (ths k).site,.slice qf (ths k).fs.n cf]) HX.out.1 hL (by simp only[List.cons_append,List.append_assoc]) rfl rfl sThings bThing (by decide) rfl (fun _=>⟨⟨bf,0,none⟩,rfl,fun j u hj=>by rw[add_addr,Nat.zero_add];exact heap_cell hHf j hj⟩) rfl (by simp[Value.oneCell']) (by have:=HB.out.1.t;have:=HB.out.2.2.2.2.2.1;have:=HM.out;omega) (by have:=HB.out.1.t;have:=HB.out.2.2.2.2.2.1;omega) ?_;clear hL;intro p4 cap4 Rt4 w4 hS4 hL;simp only[List.cons_append,List.append_assoc]at hL))
   simp only[← HP2.out]
   go_roundw
   case rel=>
    refine⟨k+1,p4,cap4,ts++[⟨(ths k).site,⟨qf,(ths k).fs.n,cf⟩⟩],Rt4,Rf++Rn,by omega,rfl,by go_num,by simpa [flatT] using hS4,?_,?_⟩
    ·have h1:=FRows.snoc (t:=⟨(ths k).site,⟨qf,(ths k).fs.n,cf⟩⟩) HX.out.2 hSf
     have h2:s.things.take (k+1)=s.things.take k++[((ths k).site,(s.thing k).2)]:=by
      have hk' : k<s.things.length:=by have:=HB.out.2.2.2.2.2.1;omega
      have h3:s.things[k]? = some (s.thing k):=by simp[Rs.thing,List.getD_eq_getElem?_getD,hk']
      rw[List.take_add_one,HTk.out.1,h3];rfl
     rw[h2];exact h1
    ·have:=hL.drop (List.sublist_cons_self _ _) (fun _ h=>h)
     simpa only[List.append_assoc] using this
   case measure=>simp[intOf];omega
  ·obtain rfl:k=r.things.n:=by omega
   go_wp2_with (first|(with_reducible first|refine lld hL ?_|((first|refine lbx hL ?_|refine lal hL ?_|refine lbs hL ?_);clear hL;intro bl w1 hL)|(refine lst' hL ?_;clear hL;intro w1 hL)))
   (try simp only[Exit.inBlock,Exit.then]);refine rt1 ?_
   obtain⟨hSt,hFr⟩:=HX.out
   obtain⟨hSv,hSl⟩:=HS.out
   obtain⟨_,ha,ht,he,hv,hn,hl⟩:=HB.out
   rw[List.take_of_length_le (by omega)]at hFr
   refine⟨⟨r.at',⟨pv,r.vars.n,cv⟩,⟨p3,r.things.n,cap3⟩,r.taken,⟨pl,r.lines.n,cl⟩,r.ending⟩,ts,Rv,Rt,Rl,Rf,rfl,⟨hSv,hSt,hSl,hFr,ha,ht,he⟩,?_,hL.below⟩
   refine(hL.ownOf ((List.sublist_cons_self _ _).trans (List.sublist_cons_self _ _))).perm (List.Perm.append_left Rv ?_)
   rw[← List.append_assoc Rl Rf Rt]
   exact List.perm_append_comm
end Go.Proofs.YtplcndmdkabmeaaGreatDoor
set_option linter.unusedSimpArgs false
set_option linter.unusedVariables false
set_option maxRecDepth 100000
set_option maxHeartbeats 1600000
namespace Go.Proofs.YtplcndmdkabmeaaGreatDoor
open Go.RowKit
abbrev machC (p:Pg) (r:Rn) (ins:Sl):List Value:=[.int .i64 p.vars,.int .i64 p.fields,.slice p.pc p.n p.cap,.int .i64 r.at',.slice r.vars.p r.vars.n r.vars.cap,.slice r.things.p r.things.n r.things.cap,.int .i64 r.taken,.slice r.lines.p r.lines.n r.lines.cap,.int .i64 r.ending,.slice ins.p ins.n ins.cap]
def Mach (w0:World) (bm:Nat) (p:Pg) (ins:Sl) (s:Rs) (w:World):Prop:=
 ∃ r ts Rv Rt Rl Rf,RowsR r s ts Rv Rt Rl Rf∧Loc w0 w ((bm,100,machC p r ins)::(Rv++(Rt++(Rl++Rf)))) []
theorem over_any (w0:World) (bm:Nat) (p:Pg) (ins:Sl) (s:Rs) (k:Int) (w:World) (h:Mach w0 bm p ins s w):
  Calls Tryz.prog 48 #[.pointer (some ⟨bm,0,none⟩),.int .i64 k] w fun e w'=>e=.returned (.tuple #[])∧Mach w0 bm p ins { s with ending:=k } w':=by
 obtain⟨r,ts,Rv,Rt,Rl,Rf,hR,hL⟩:=h
 have HR:=Lib.hid hR
 clear hR
 obtain⟨ra,rv,rt,rk,rl,re⟩:=r
 go_enter Tryz.func48,Tryz.ntmps48
 go_wp2_with (first|(with_reducible first|refine lld hL ?_|((first|refine lbx hL ?_|refine lal hL ?_|refine lbs hL ?_);clear hL;intro bl w1 hL)|(refine lst' hL ?_;clear hL;intro w1 hL)))
 (try simp only[Exit.inBlock,Exit.then]);(first|refine end0 rfl rfl ?_|refine ret0 rfl rfl ?_)
 obtain⟨h1,h2,h3,h4,h5,h6,h7⟩:=HR.out
 exact⟨rfl,⟨ra,rv,rt,rk,rl,k⟩,ts,Rv,Rt,Rl,Rf,⟨h1,h2,h3,h4,h5,h6,rfl⟩,hL⟩
def Rs.set (s:Rs) (k:Nat) (v:Vl):Rs:={ s with vars:=s.vars.set k v,at':=s.at' + 1 }
theorem set_any (w0:World) (bm:Nat) (p:Pg) (ins:Sl) (s:Rs) (k:Nat) (v:Vl) (w:World) (h:Mach w0 bm p ins s w) (hk:k<s.vars.length) (ha:0≤s.at'∧s.at'≤1000000):
  Calls Tryz.prog 88 #[.pointer (some ⟨bm,0,none⟩),.int .i64 k,v.v] w fun e w'=>e=.returned (.tuple #[])∧Mach w0 bm p ins (s.set k v) w':=by
 obtain⟨r,ts,Rv,Rt,Rl,Rf,hR,hL⟩:=h
 have hn:=hR.vars.flatlen lenV (by decide)
 have haa:=hR.a
 obtain⟨gv,cs,hp,rfl,htk,hlen⟩:=hR.vars.block (by omega)
 simp only[List.cons_append,List.nil_append]at hL
 have hput:=hR.vars.put lenV dV (k:=k) (by omega) v
 have hk:k<r.vars.n:=by omega
 have hle:=hR.vars.fits
 have HR:=Lib.hid (And.intro hR hput)
 have ha2:0≤r.at'∧r.at'≤1000000:=by omega
 have HS:=Lib.hid (show k*2+v.cells.length≤cs.length by show k*2+2≤_;rw[hlen];omega)
 clear hR hput hn haa htk hlen hle ha
 obtain⟨ra,⟨vp,vn,vc⟩,rt,rk,rl,re⟩:=r
 dsimp only at hp hk ha2
 subst hp
 obtain⟨ha0,ha1⟩:=ha2
 go_enter Tryz.func88,Tryz.ntmps88
 go_upto_region 1 with(first|(with_reducible first|refine lld hL ?_|((first|refine lbx hL ?_|refine lal hL ?_|refine lbs hL ?_);clear hL;intro bl w1 hL)|(refine lst' hL ?_;clear hL;intro w1 hL)))
 refine draw_begin [6,7,8,9,10,11,12,13] ?_
 refine dv0 ?_
 refine dv1 0 ?_
 refine dv1 1 ?_
 refine dv1 2 ?_
 refine dv1 3 ?_
 refine dv0 ?_
 refine dv0 ?_
 refine dv2 4 5 ?_
 refine dnd hL ?_
 clear hL;intro w2 hL;simp only[fillX,sTa,sTb]
 go_wp2_with (first|(refine loc_store (b:=gv) (off:=k*2) (vs:=v.cells) (cs':=spliced cs (k*2) v.cells) hL rfl rfl cIn rfl tValue.sz rfl HS.out rfl ?_;clear hL;intro w' hL)|(with_reducible first|refine lld hL ?_|((first|refine lbx hL ?_|refine lal hL ?_|refine lbs hL ?_);clear hL;intro bl w1 hL)|(refine lst' hL ?_;clear hL;intro w1 hL)))
 (try simp only[Exit.inBlock,Exit.then]);(first|refine end0 rfl rfl ?_|refine ret0 rfl rfl ?_)
 obtain⟨⟨h1,h2,h3,h4,h5,h6,h7⟩,hput⟩:=HR.out
 refine⟨rfl,⟨ra+1,⟨some ⟨gv,0,none⟩,vn,vc⟩,rt,rk,rl,re⟩,ts,[(gv,77,spliced cs (k*2) v.cells)],Rt,Rl,Rf,⟨hput,h2,h3,h4,?_,h6,h7⟩,hL.drop (List.sublist_cons_self _ _) (fun _ h=>h)⟩
 show ra+1=s.at' + 1
 rw[← h5]
end Go.Proofs.YtplcndmdkabmeaaGreatDoor
