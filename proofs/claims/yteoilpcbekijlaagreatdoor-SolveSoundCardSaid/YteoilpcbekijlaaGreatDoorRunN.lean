import Derived.Test.YteoilpcbekijlaaGreatDoorRunM
set_option linter.unusedSimpArgs false
set_option linter.unusedVariables false
set_option maxRecDepth 100000
set_option maxHeartbeats 1000000
namespace Go.Proofs.YteoilpcbekijlaaGreatDoor
open Go.RowKit
def onwardS (kind goto:Int) (a:Nat) (s:Rs):Rs:=
 if kind=16 then { s with at':=goto }
 else if kind=15 then (if countsV (s.val a) then { s with at':=goto } else { s with at':=s.at' + 1 })
 else if kind=17 then (if countsV (s.val a) then { s with at':=s.at' + 1 } else { s with ending:=3 })
 else if kind=18 then { s with lines:=s.lines++[lineV (s.val a)],at':=s.at' + 1 }
 else { s with ending:=1 }
theorem onward_plain (w0:World) (bm:Nat) (p:Pg) (ins:Sl) (s:Rs) (i:Ins) (w:World) (h:Mach w0 bm p ins s w) (hk:i.kind=16∨i.kind=19):
  Calls Tryz.prog 103 #[.pointer (some ⟨bm,0,none⟩),i.v] w fun e w'=>e=.returned (.tuple #[])∧Mach w0 bm p ins (onwardS i.kind i.goto i.a.toNat s) w':=by
 obtain⟨r,ts,Rv,Rt,Rl,Rf,hR,hL⟩:=h
 obtain⟨kind,zt,ia,ib,num,goto⟩:=i
 have HR:=Lib.hid hR
 obtain⟨ra,rv,rg,rk,rl,re⟩:=r
 dsimp only at hk
 clear hR
 rcases hk with rfl|rfl
 ·go_enter Tryz.func103,Tryz.ntmps103
  go_wp2_with (first|(with_reducible first|refine lld hL ?_|((first|refine lbx hL ?_|refine lal hL ?_|refine lbs hL ?_);clear hL;intro bl w1 hL)|(refine lst' hL ?_;clear hL;intro w1 hL)))
  (try simp only[Exit.inBlock,Exit.then]);(first|refine end0 rfl rfl ?_|refine ret0 rfl rfl ?_)
  obtain⟨h1,h2,h3,h4,h5,h6,h7⟩:=HR.out
  exact⟨rfl,⟨goto,rv,rg,rk,rl,re⟩,ts,Rv,Rt,Rl,Rf,⟨h1,h2,h3,h4,rfl,h6,h7⟩,hL.drop (List.sublist_cons_self _ _) (fun _ h=>h)⟩
 ·go_enter Tryz.func103,Tryz.ntmps103
  go_wp2_with (first|(with_reducible first|refine lld hL ?_|((first|refine lbx hL ?_|refine lal hL ?_|refine lbs hL ?_);clear hL;intro bl w1 hL)|(refine lst' hL ?_;clear hL;intro w1 hL))|(go_at_call 53;refine(over_any w0 bm p ins s 1 _ ⟨_,ts,Rv,Rt,Rl,Rf,HR.out,hL.drop (List.sublist_cons_self _ _) (fun _ h=>h)⟩).mono ?_;rintro e w3 ⟨rfl,hM⟩;dsimp only))
  (try simp only[Exit.inBlock,Exit.then]);(first|refine end0 rfl rfl ?_|refine ret0 rfl rfl ?_)
  exact⟨rfl,by simpa [onwardS] using hM⟩
theorem onward_any (w0:World) (bm:Nat) (p:Pg) (ins:Sl) (s:Rs) (i:Ins) (a:Nat) (w:World) (h:Mach w0 bm p ins s w) (hk:i.kind=15∨i.kind=17∨i.kind=18) (hi:i.a=a) (ha:a<s.vars.length) (hat:0≤s.at'∧s.at'≤1000000)
  (hn:-9223372036854775808≤(s.val a).n∧(s.val a).n≤9223372036854775807) (hl:s.lines.length*16+16≤140737488355328) (hp:Pows w0):
  Calls Tryz.prog 103 #[.pointer (some ⟨bm,0,none⟩),i.v] w fun e w'=>e=.returned (.tuple #[])∧Mach w0 bm p ins (onwardS i.kind i.goto a s) w':=by
 obtain⟨r,ts,Rv,Rt,Rl,Rf,hR,hL⟩:=h
 have hvn:=hR.vars.flatlen lenV (by decide)
 have hln:=hR.lines.flatlen lenL (by decide)
 obtain⟨gv,cs,hpv,rfl,htk,hlen⟩:=hR.vars.block (by omega)
 have hpm:∀ X:List LBlk,(Rt++(Rf++X)).Perm (Rt++(X++Rf)):=fun X=>List.Perm.append_left Rt List.perm_append_comm
 replace hL:=hL.perm (((hpm Rl).append_left [(gv,81,cs)]).cons _)
 simp only[List.cons_append,List.nil_append]at hL
 have hea:=hR.vars.elem lenV dV (k:=a) (by omega)
 obtain⟨va,hva⟩:∃ x,x=s.val a:=⟨_,rfl⟩
 have HA:=Lib.hid (show Reads Tryz.prog 81 cs (a*2) va.v by rw[hva];exact Reads.agg tValue hea rfl)
 rw[← hva]at hn
 have HR:=Lib.hid hR
 have ha1:a<r.vars.n:=by omega
 have hra:=hR.a
 have hmx:maxLen=9223372036854775807:=rfl
 have HX:=Lib.hid (And.intro hln (And.intro hl (And.intro hn (And.intro hva hmx))))
 have HW:=Lib.hid hp
 obtain⟨kind,zt,ia,ib,num,goto⟩:=i
 dsimp only at hi hk
 subst hi
 rw[← hra]at hat
 obtain⟨ha0,ha9⟩:=hat
 have HA2:=Lib.hid hra
 clear hR hea hvn htk hlen ha hva hln hl hpm hn hp hra hmx
 obtain⟨ra,⟨vp,vn,vc⟩,rt,rk,⟨lp,ln,lc⟩,re⟩:=r
 dsimp only at hpv ha1 ha0 ha9
 subst hpv
 have HM:=Lib.hid (fun (ra' re' : Int) (s' : Rs) (w' : World) (h1:s'.at'=ra') (h2:s'.ending=re') (h3:s'.vars=s.vars∧s'.things=s.things∧s'.lines=s.lines∧s'.taken=s.taken)
   (hL:Loc w0 w' ((bm,104,machC p ⟨ra',⟨some ⟨gv,0,none⟩,vn,vc⟩,rt,rk,⟨lp,ln,lc⟩,re'⟩ ins)::(gv,81,cs)::(Rt++(Rf++Rl))) [])=>(by
    obtain⟨k1,k2,k3,k4,k5,k6,k7⟩:=HR.out
    obtain⟨e1,e2,e3,e4⟩:=h3
    refine⟨⟨ra',⟨some ⟨gv,0,none⟩,vn,vc⟩,rt,rk,⟨lp,ln,lc⟩,re'⟩,ts,[(gv,81,cs)],Rt,Rl,Rf,⟨by rw[e1];exact k1,k2,by rw[e3];exact k3,by rw[e2];exact k4,h1.symm,by rw[e4];exact k6,h2.symm⟩,?_⟩
    exact hL.perm (((List.Perm.append_left Rt List.perm_append_comm).append_left [(gv,81,cs)]).cons _):Mach w0 bm p ins s' w'))
 rcases hk with rfl|rfl|rfl
 ·go_enter Tryz.func103,Tryz.ntmps103
  go_upto_region 5 with(first|(with_reducible first|refine lld hL ?_|((first|refine lbx hL ?_|refine lal hL ?_|refine lbs hL ?_);clear hL;intro bl w1 hL)|(refine lst' hL ?_;clear hL;intro w1 hL)))
  refine draw_begin [16,17,18,19,20,21,22,23,24,25] ?_
  refine dv0 ?_
  refine dv1 0 ?_
  refine dv1 1 ?_
  refine dv1 2 ?_
  refine dv1 3 ?_
  refine dv0 ?_
  refine dv1 5 ?_
  refine dv2 4 6 ?_
  apply draw_val
  ·intro g w hb v;replace hL:=hL.grow hb;have d7:=yv v 7;clear v;simp only[fillD,fLa,fLb,sTa,sTb];simp only[d7]
   refine loc_load hL rfl rfl cIn HA.out ?_
   exact cY
  simp only[apN,apC]
  apply draw_val
  ·intro g w hb v;replace hL:=hL.grow hb;have d8:=yv v 8;clear v;simp only[fillD,fLa,fLb,sTa,sTb];simp only[d8]
   go_wp2_with (go_at_call 99;refine(counts_any _ _).mono ?_;rintro e w3 ⟨rfl,hb3⟩;dsimp only)
   exact⟨rfl,_,rfl,hb3,rfl⟩
  simp only[apN,apC]
  refine dnd hL ?_
  clear hL;intro w2 hL;simp only[fillX,sTa,sTb]
  clear HA
  cases hc:countsV va with
  | true=>
   have HC:=Lib.hid (show onwardS 15 goto a s={ s with at':=goto } by rw[onwardS,if_neg (by decide),if_pos rfl,← HX.out.2.2.2.1,if_pos hc])
   clear hc
   go_wp2_with (first|(with_reducible first|refine lld hL ?_|((first|refine lbx hL ?_|refine lal hL ?_|refine lbs hL ?_);clear hL;intro bl w1 hL)|(refine lst' hL ?_;clear hL;intro w1 hL)))
   (try simp only[Exit.inBlock,Exit.then]);(first|refine end0 rfl rfl ?_|refine ret0 rfl rfl ?_)
   exact⟨rfl,by rw[HC.out];exact HM.out goto re _ _ rfl HR.out.e.symm ⟨rfl,rfl,rfl,rfl⟩ (hL.drop (List.sublist_cons_self _ _) (fun _ h=>h))⟩
  | false=>
   have HC:=Lib.hid (show onwardS 15 goto a s={ s with at':=s.at' + 1 } by rw[onwardS,if_neg (by decide),if_pos rfl,← HX.out.2.2.2.1,hc];rfl)
   clear hc
   go_wp2_with (first|(with_reducible first|refine lld hL ?_|((first|refine lbx hL ?_|refine lal hL ?_|refine lbs hL ?_);clear hL;intro bl w1 hL)|(refine lst' hL ?_;clear hL;intro w1 hL)))
   (try simp only[Exit.inBlock,Exit.then]);(first|refine end0 rfl rfl ?_|refine ret0 rfl rfl ?_)
   exact⟨rfl,by rw[HC.out];exact HM.out (ra+1) re _ _ (by have:=HA2.out;dsimp only at this ⊢;rw[this]) HR.out.e.symm ⟨rfl,rfl,rfl,rfl⟩ (hL.drop (List.sublist_cons_self _ _) (fun _ h=>h))⟩
 ·go_enter Tryz.func103,Tryz.ntmps103
  go_upto_region 8 with(first|(with_reducible first|refine lld hL ?_|((first|refine lbx hL ?_|refine lal hL ?_|refine lbs hL ?_);clear hL;intro bl w1 hL)|(refine lst' hL ?_;clear hL;intro w1 hL)))
  refine draw_begin [34,35,36,37,38,39,40,41,42,43,44] ?_
  refine dv0 ?_
  refine dv1 0 ?_
  refine dv1 1 ?_
  refine dv1 2 ?_
  refine dv1 3 ?_
  refine dv0 ?_
  refine dv1 5 ?_
  refine dv2 4 6 ?_
  apply draw_val
  ·intro g w hb v;replace hL:=hL.grow hb;have d7:=yv v 7;clear v;simp only[fillD,fLa,fLb,sTa,sTb];simp only[d7]
   refine loc_load hL rfl rfl cIn HA.out ?_
   exact cY
  simp only[apN,apC]
  apply draw_val
  ·intro g w hb v;replace hL:=hL.grow hb;have d8:=yv v 8;clear v;simp only[fillD,fLa,fLb,sTa,sTb];simp only[d8]
   go_wp2_with (go_at_call 99;refine(counts_any _ _).mono ?_;rintro e w3 ⟨rfl,hb3⟩;dsimp only)
   exact⟨rfl,_,rfl,hb3,rfl⟩
  simp only[apN,apC]
  refine dv1 9 ?_
  refine dnd hL ?_
  clear hL;intro w2 hL;simp only[fillX,sTa,sTb]
  clear HA
  cases hc:countsV va with
  | true=>
   have HC:=Lib.hid (show onwardS 17 goto a s={ s with at':=s.at' + 1 } by rw[onwardS,if_neg (by decide),if_neg (by decide),if_pos rfl,← HX.out.2.2.2.1,if_pos hc])
   clear hc
   go_wp2_with (first|(with_reducible first|refine lld hL ?_|((first|refine lbx hL ?_|refine lal hL ?_|refine lbs hL ?_);clear hL;intro bl w1 hL)|(refine lst' hL ?_;clear hL;intro w1 hL)))
   (try simp only[Exit.inBlock,Exit.then]);(first|refine end0 rfl rfl ?_|refine ret0 rfl rfl ?_)
   exact⟨rfl,by rw[HC.out];exact HM.out (ra+1) re _ _ (by have:=HA2.out;dsimp only at this ⊢;rw[this]) HR.out.e.symm ⟨rfl,rfl,rfl,rfl⟩ (hL.drop (List.sublist_cons_self _ _) (fun _ h=>h))⟩
  | false=>
   have HC:=Lib.hid (show onwardS 17 goto a s={ s with ending:=3 } by rw[onwardS,if_neg (by decide),if_neg (by decide),if_pos rfl,← HX.out.2.2.2.1,hc];rfl)
   clear hc
   go_wp2_with (first|(with_reducible first|refine lld hL ?_|((first|refine lbx hL ?_|refine lal hL ?_|refine lbs hL ?_);clear hL;intro bl w1 hL)|(refine lst' hL ?_;clear hL;intro w1 hL))|(go_at_call 53;refine(over_any w0 bm p ins s 3 _ (HM.out ra re s _ HA2.out.symm HR.out.e.symm ⟨rfl,rfl,rfl,rfl⟩ (hL.drop (List.sublist_cons_self _ _) (fun _ h=>h)))).mono ?_;rintro e w3 ⟨rfl,hM⟩;dsimp only))
   (try simp only[Exit.inBlock,Exit.then]);(first|refine end0 rfl rfl ?_|refine ret0 rfl rfl ?_)
   exact⟨rfl,by rw[HC.out];exact hM⟩
 ·go_enter Tryz.func103,Tryz.ntmps103
  go_upto_region 11 with(first|(with_reducible first|refine lld hL ?_|((first|refine lbx hL ?_|refine lal hL ?_|refine lbs hL ?_);clear hL;intro bl w1 hL)|(refine lst' hL ?_;clear hL;intro w1 hL)))
  refine draw_begin [49,50,51,52,53,54,55,56,57,58,59,60,61,62,63,64,65] ?_
  refine dv0 ?_
  refine dv0 ?_
  refine dv1 1 ?_
  refine dv1 2 ?_
  refine dv1 3 ?_
  refine dv1 4 ?_
  refine dv0 ?_
  refine dv1 6 ?_
  refine dv1 7 ?_
  refine dv1 8 ?_
  refine dv1 9 ?_
  refine dv0 ?_
  refine dv1 11 ?_
  refine dv2 10 12 ?_
  apply draw_val
  ·intro g w hb v;replace hL:=hL.grow hb;have d13:=yv v 13;clear v;simp only[fillD,fLa,fLb,sTa,sTb];simp only[d13]
   refine loc_load hL rfl rfl cIn HA.out ?_
   exact cY
  simp only[apN,apC]
  apply draw_val
  ·intro g w hb v;replace hL:=hL.grow hb;have d14:=yv v 14;clear v;simp only[fillD,fLa,fLb,sTa,sTb];simp only[d14]
   go_wp2_with (go_at_call 154;refine(line_any _ _ HX.out.2.2.1.1 HX.out.2.2.1.2 (HW.out.grow hL.below)).mono ?_;rintro e w3 ⟨rfl,hb3⟩;dsimp only)
   exact⟨rfl,_,rfl,hb3,rfl⟩
  simp only[apN,apC]
  apply draw_row
  ·intro g w hb v;replace hL:=hL.grow hb;have d15:=yv v 15;clear v;simp only[fillD,fLa,fLb,sTa,sTb];simp only[d15]
   go_wp2
   exact⟨rfl,_,rfl,(Below.refl _ _).alloc (Nat.le_refl _) _,_,hb.size,rfl,heap_new _ _⟩
  simp only[apN,apC]
  refine draw_end1 0 hL (by kernel_rfl) (by kernel_rfl) (fun _ _ _ _ _ h=>h) ?_ ?_
  ·(refine late_ok rfl rfl ?_;intro g w hb v;(try simp[depsOf,List.filter_cons,Region.binds,AllR,RAt]at v);simp only[fillD,List.foldl_cons,List.foldl_nil,List.set_cons_succ,List.set_cons_zero];(try simp only[v]);exact⟨_,.inl ⟨rfl,fun w=>(by go_simp<;>(try (split<;>(rename_i hs;simp[hs,cnd]))))⟩,rfl⟩)
  intro g w2 hb hR;simp only[List.length_cons,List.length_nil,Nat.reduceAdd]at hR
  have e0:=yv hR 0
  have e1:=yv hR 1
  have e2:=yv hR 2
  have e3:=yv hR 3
  have e4:=yv hR 4
  have e5:=yv hR 5
  have e6:=yv hR 6
  have e7:=yv hR 7
  have e8:=yv hR 8
  have e9:=yv hR 9
  have e10:=yv hR 10
  have e11:=yv hR 11
  have e12:=yv hR 12
  have e13:=yv hR 13
  have e14:=yv hR 14
  have e15:=yv hR 15
  obtain⟨b16,p16,e16,c16⟩:=rat_row (allR_get hR (j:=16) (by decide)) rfl rfl
  clear hR;simp only[fillD,fLa,fLb,sTa,sTb]
  simp only[e0,e1,e2,e3,e4,e5,e6,e7,e8,e9,e10,e11,e12,e13,e14,e15,e16]
  clear e0 e1 e2 e3 e4 e5 e6 e7 e8 e9 e10 e11 e12 e13 e14 e15 e16
  replace hL:=hL.moreAll hb (Ds:=[HeapAt b16 _ _]) (by
   intro S hS
   simp only[List.mem_cons,List.not_mem_nil,or_false]at hS
   rcases hS with rfl
   ·exact HeapAt.fresh p16 c16)
  simp only[List.cons_append,List.nil_append]at hL
  clear p16 c16
  clear hb
  clear HA
  have HC:=Lib.hid (show onwardS 18 goto a s={ s with lines:=s.lines++[lineV va],at':=s.at' + 1 } by rw[onwardS,if_neg (by decide),if_neg (by decide),if_neg (by decide),if_pos rfl,← HX.out.2.2.2.1])
  have HSl:=Lib.hid HR.out.lines
  go_wp2_with (first|(refine loc_appendS (K:=(bl,_,_)::(bm,_,_)::(gv,_,_)::(Rt++Rf)) (R:=Rl) (news:=[.string (lineV va)]) HSl.out hL (by simp only[List.cons_append,List.append_assoc];rfl) rfl rfl sStrs bStr (by decide) rfl (fun _=>⟨⟨b16,0,none⟩,rfl,fun j u hj=>by rw[add_addr,Nat.zero_add];exact heap_cell (hL.get (S:=HeapAt b16 _ _) List.mem_cons_self) j hj⟩) rfl (by simp[Value.oneCell']) (by have h1:=HX.out.1;have h2:=HX.out.2.1;have h3:=HX.out.2.2.2.2;dsimp only at h1;omega) (by have h1:=HX.out.1;have h2:=HX.out.2.1;dsimp only at h1;omega) ?_;clear hL;intro p4 cap4 Rl4 w4 hS4 hL;simp only[List.cons_append,List.append_assoc]at hL)|(with_reducible first|refine lld hL ?_|((first|refine lbx hL ?_|refine lal hL ?_|refine lbs hL ?_);clear hL;intro bl w1 hL)|(refine lst' hL ?_;clear hL;intro w1 hL)))
  (try simp only[Exit.inBlock,Exit.then]);(first|refine end0 rfl rfl ?_|refine ret0 rfl rfl ?_)
  obtain⟨k1,k2,k3,k4,k5,k6,k7⟩:=HR.out
  rw[HC.out]
  refine⟨rfl,⟨ra+1,⟨some ⟨gv,0,none⟩,vn,vc⟩,rt,rk,⟨p4,ln+1,cap4⟩,re⟩,ts,[(gv,81,cs)],Rt,Rl4,Rf,⟨k1,k2,by simpa [flatL] using hS4,k4,?_,k6,k7⟩,?_⟩
  ·have:=HA2.out;dsimp only at this ⊢;rw[this]
  ·have h:=hL.drop (D':=[]) (List.sublist_cons_self _ _) (fun S hS=>by cases hS)
   exact h.perm (((List.Perm.append_left Rt List.perm_append_comm).append_left [(gv,81,cs)]).cons _)
end Go.Proofs.YteoilpcbekijlaaGreatDoor
