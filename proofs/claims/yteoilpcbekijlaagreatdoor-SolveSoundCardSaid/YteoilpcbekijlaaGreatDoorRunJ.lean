import Derived.Test.YteoilpcbekijlaaGreatDoorRunI
set_option linter.unusedSimpArgs false
set_option linter.unusedVariables false
set_option maxRecDepth 100000
set_option maxHeartbeats 4000000
namespace Go.Proofs.YteoilpcbekijlaaGreatDoor
open Go.RowKit
theorem field_no (w0:World) (bm:Nat) (p:Pg) (ins:Sl) (s:Rs) (i:Ins) (a:Nat) (w:World) (h:Mach w0 bm p ins s w) (hi:i.a=a) (ha:a<s.vars.length) (h3:(s.val a).kind≠3):
  Calls Tryz.prog 101 #[.pointer (some ⟨bm,0,none⟩),i.v] w fun e w'=>e=.returned (.pointer none)∧Mach w0 bm p ins { s with ending:=2 } w':=by
 obtain⟨r,ts,Rv,Rt,Rl,Rf,hR,hL⟩:=h
 have hn:=hR.vars.flatlen lenV (by decide)
 obtain⟨gv,cs,hp,rfl,htk,hlen⟩:=hR.vars.block (by omega)
 simp only[List.cons_append,List.nil_append]at hL
 have hea:=hR.vars.elem lenV dV (k:=a) (by omega)
 obtain⟨va,hva⟩:∃ x,x=s.val a:=⟨_,rfl⟩
 have HA:=Lib.hid (show Reads Tryz.prog 81 cs (a*2) va.v by rw[hva];exact Reads.agg tValue hea rfl)
 rw[← hva]at h3
 have HR:=Lib.hid hR
 have ha1:a<r.vars.n:=by omega
 obtain⟨kind,zt,ia,ib,num,goto⟩:=i
 dsimp only at hi
 subst hi
 clear hR hea hn htk hlen ha hva
 obtain⟨ra,⟨vp,vn,vc⟩,rt,rk,rl,re⟩:=r
 dsimp only at hp ha1
 subst hp
 obtain⟨ka,na⟩:=va
 have h4:(ka != 3)=true:=by simpa using h3
 clear h3
 go_enter Tryz.func101,Tryz.ntmps101
 go_upto_region 1 with(first|(with_reducible first|refine lld hL ?_|((first|refine lbx hL ?_|refine lal hL ?_|refine lbs hL ?_);clear hL;intro bl w1 hL)|(refine lst' hL ?_;clear hL;intro w1 hL)))
 refine draw_begin [6,7,8,9,10,11,12,13,14,5] ?_
 refine dv0 ?_
 refine dv1 0 ?_
 refine dv1 1 ?_
 refine dv1 2 ?_
 refine dv1 3 ?_
 refine dv0 ?_
 refine dv1 5 ?_
 refine dv2 4 6 ?_
 apply draw_val
 ·intro g w hb v;replace hL:=hL.grow hb;have d7:=yv v 7;clear v;simp only[fillD,fLa,fLb,sTa,sTb];simp only[d7]
  refine loc_load hL rfl rfl cIn HA.out ?_
  exact cY
 simp only[apN,apC]
 apply draw_ptr
 ·intro g w hb v;replace hL:=hL.grow hb;clear v;simp only[fillD,fLa,fLb,sTa,sTb]
  go_wp2
  exact⟨rfl,_,rfl,(Below.refl _ _).alloc (Nat.le_refl _) _,_,hb.size,rfl,heap_new _ _⟩
 simp only[apN,apC]
 refine draw_end hL (by kernel_rfl) (by kernel_rfl) ?_
 intro g w2 hb hR;simp only[List.length_cons,List.length_nil,Nat.reduceAdd]at hR
 have e0:=yv hR 0
 have e1:=yv hR 1
 have e2:=yv hR 2
 have e3:=yv hR 3
 have e4:=yv hR 4
 have e5:=yv hR 5
 have e6:=yv hR 6
 have e7:=yv hR 7
 have e8:=yv hR 8
 obtain⟨b9,p9,e9,c9⟩:=rat_ptr (allR_get hR (j:=9) (by decide)) rfl rfl
 clear hR;simp only[fillD,fLa,fLb,sTa,sTb]
 simp only[e0,e1,e2,e3,e4,e5,e6,e7,e8,e9]
 clear e0 e1 e2 e3 e4 e5 e6 e7 e8 e9
 replace hL:=hL.gain hb p9 c9
 clear p9 c9
 clear hb
 clear HA
 go_wp2_with (first|(with_reducible first|refine lld hL ?_|((first|refine lbx hL ?_|refine lal hL ?_|refine lbs hL ?_);clear hL;intro bl w1 hL)|(refine lst' hL ?_;clear hL;intro w1 hL))|(go_at_call 53;refine(over_any w0 bm p ins s 2 _ ⟨_,ts,[(gv,81,cs)],Rt,Rl,Rf,HR.out,hL.drop (by repeat (first|exact List.Sublist.refl _|apply List.Sublist.cons)) (fun _ h=>h)⟩).mono ?_;rintro e w3 ⟨rfl,hM⟩;dsimp only))
 go_ret
 exact⟨rfl,hM⟩
theorem field_yes (w0:World) (bm gv gt gf:Nat) (p:Pg) (ins:Sl) (ra:Int) (vn vc tn tc fn fc:Nat) (rk:Int) (rl:Sl) (re:Int) (csv cst csf:List Value) (Rest:List LBlk) (i:Ins) (a k f:Nat) (w:World)
  (hL:Loc w0 w ((bm,104,machC p ⟨ra,⟨some ⟨gv,0,none⟩,vn,vc⟩,⟨some ⟨gt,0,none⟩,tn,tc⟩,rk,rl,re⟩ ins)::(gv,81,csv)::(gt,83,cst)::(gf,81,csf)::Rest) [])
  (hi:i.a=a∧i.n=f) (ha:a<vn) (hk:k<tn) (hf:f<fn) (hA:Reads Tryz.prog 81 csv (a*2) (Vl.v ⟨3,k⟩)) (hT:Reads Tryz.prog 42 cst (k*2+1) (.slice (some ⟨gf,0,none⟩) fn fc)):
  Calls Tryz.prog 101 #[.pointer (some ⟨bm,0,none⟩),i.v] w fun e w'=>e=.returned (.pointer (some ⟨gf,f*2,none⟩))∧
   Loc w0 w' ((bm,104,machC p ⟨ra,⟨some ⟨gv,0,none⟩,vn,vc⟩,⟨some ⟨gt,0,none⟩,tn,tc⟩,rk,rl,re⟩ ins)::(gv,81,csv)::(gt,83,cst)::(gf,81,csf)::Rest) []:=by
 have HA:=Lib.hid hA
 have HT:=Lib.hid hT
 obtain⟨kind,zt,ia,ib,num,goto⟩:=i
 dsimp only at hi
 obtain⟨rfl,rfl⟩:=hi
 clear hA hT
 go_enter Tryz.func101,Tryz.ntmps101
 go_upto_region 1 with(first|(with_reducible first|refine lld hL ?_|((first|refine lbx hL ?_|refine lal hL ?_|refine lbs hL ?_);clear hL;intro bl w1 hL)|(refine lst' hL ?_;clear hL;intro w1 hL)))
 refine draw_begin [6,7,8,9,10,11,12,13,14,5] ?_
 refine dv0 ?_
 refine dv1 0 ?_
 refine dv1 1 ?_
 refine dv1 2 ?_
 refine dv1 3 ?_
 refine dv0 ?_
 refine dv1 5 ?_
 refine dv2 4 6 ?_
 apply draw_val
 ·intro g w hb v;replace hL:=hL.grow hb;have d7:=yv v 7;clear v;simp only[fillD,fLa,fLb,sTa,sTb];simp only[d7]
  refine loc_load hL rfl rfl cIn HA.out ?_
  exact cY
 simp only[apN,apC]
 apply draw_ptr
 ·intro g w hb v;replace hL:=hL.grow hb;clear v;simp only[fillD,fLa,fLb,sTa,sTb]
  go_wp2
  exact⟨rfl,_,rfl,(Below.refl _ _).alloc (Nat.le_refl _) _,_,hb.size,rfl,heap_new _ _⟩
 simp only[apN,apC]
 refine draw_end hL (by kernel_rfl) (by kernel_rfl) ?_
 intro g w2 hb hR;simp only[List.length_cons,List.length_nil,Nat.reduceAdd]at hR
 have e0:=yv hR 0
 have e1:=yv hR 1
 have e2:=yv hR 2
 have e3:=yv hR 3
 have e4:=yv hR 4
 have e5:=yv hR 5
 have e6:=yv hR 6
 have e7:=yv hR 7
 have e8:=yv hR 8
 obtain⟨b9,p9,e9,c9⟩:=rat_ptr (allR_get hR (j:=9) (by decide)) rfl rfl
 clear hR;simp only[fillD,fLa,fLb,sTa,sTb]
 simp only[e0,e1,e2,e3,e4,e5,e6,e7,e8,e9]
 clear e0 e1 e2 e3 e4 e5 e6 e7 e8 e9
 replace hL:=hL.gain hb p9 c9
 clear p9 c9
 clear hb
 clear HA
 go_upto_region 5 with(first|(with_reducible first|refine lld hL ?_|((first|refine lbx hL ?_|refine lal hL ?_|refine lbs hL ?_);clear hL;intro bl w1 hL)|(refine lst' hL ?_;clear hL;intro w1 hL)))
 refine draw_begin [20,21,22,23,24,25,26,27,28,29,30,31,32,4] ?_
 refine dv0 ?_
 refine dv1 0 ?_
 refine dv1 1 ?_
 refine dv1 2 ?_
 refine dv1 3 ?_
 refine dv0 ?_
 refine dv1 5 ?_
 refine dv2 4 6 ?_
 refine dv1 7 ?_
 apply draw_val
 ·intro g w hb v;replace hL:=hL.grow hb;have d8:=yv v 8;clear v;simp only[fillD,fLa,fLb,sTa,sTb];simp only[d8]
  refine loc_load hL rfl rfl cIn HT.out ?_
  exact cY
 simp only[apN,apC]
 refine dv0 ?_
 refine dv1 10 ?_
 refine dv2 9 11 ?_
 refine dv1 12 ?_
 refine dnd hL ?_
 clear hL;intro w3 hL;simp only[fillX,sTa,sTb]
 go_wp2_with (first|(with_reducible first|refine lld hL ?_|((first|refine lbx hL ?_|refine lal hL ?_|refine lbs hL ?_);clear hL;intro bl w1 hL)|(refine lst' hL ?_;clear hL;intro w1 hL)))
 go_ret
 exact⟨rfl,hL.drop (by repeat (first|exact List.Sublist.refl _|apply List.Sublist.cons)) (fun _ h=>h)⟩
section
variable {P : Program} {ops : Array Oper} {Q : Exit → Act → World → Prop} {a : Act} {w0 w : World} {rest : List Oper} {L : List LBlk} {D : List Datum}
 {d:Option Tmp}{ty:TypeId}{pos:String}{after:Array Edge}{g:Option (Nat × Bool)}
theorem wp_make_new {T E:TypeId}{z:List Value}{bytes n:Nat}{l c:Operand}{kl kc:IntKind}(hw:Region.wanted ⟨d,.makeSlice T l c,ty,pos,after,g⟩ (yielded ops a.tmps)=true) (hT:SliceT P T E z) (hby:BytesT P E bytes)
  (hl:a.eval l=.int kl (n:Int)) (hc:a.eval c=.int kc (n:Int)) (hb:bytes*n≤281474976710656) (h63:n≤9223372036854775807)
  (h:∀ p cap R w',RowS E z.length p n cap (List.replicate n z).flatten R→Own w.heap.size w' R→Below w.heap.size w w'→wpList P ops Q rest (a.put d (.slice p n cap)) w'):wpList P ops Q (⟨d,.makeSlice T l c,ty,pos,after,g⟩::rest) a w:=by
 refine loc_make (Loc.start w) hw hT hby hl hc hb h63 ?_
 intro b w' hL
 refine h _ _ _ w' (RowS.full ?_ h63) hL.own hL.below
 simp[List.length_flatten]
end
def createS (t m:Nat) (s:Rs):Rs:=
 if s.things.length=100 then { s with ending:=5 } else Rs.set { s with things:=s.things++[(s.at',List.replicate m dV)] } t ⟨3,s.things.length⟩
theorem mcreate_any (w0:World) (bm:Nat) (p:Pg) (ins:Sl) (s:Rs) (i:Ins) (t m:Nat) (w:World) (h:Mach w0 bm p ins s w) (hi:i.to=t) (ht:t<s.vars.length) (hm:p.fields=m∧m≤3) (hlen:s.things.length≤100) (hat:0≤s.at'∧s.at'≤1000000):
  Calls Tryz.prog 100 #[.pointer (some ⟨bm,0,none⟩),i.v] w fun e w'=>e=.returned (.tuple #[])∧Mach w0 bm p ins (createS t m s) w':=by
 obtain⟨r,ts,Rv,Rt,Rl,Rf,hR,hL⟩:=h
 have hpm:∀ X:List LBlk,(Rv++(Rl++(X++Rt))).Perm (Rv++(Rt++(Rl++X))):=fun X=>
  List.Perm.append_left Rv (by rw[← List.append_assoc Rl X Rt];exact List.perm_append_comm)
 replace hL:=hL.perm ((hpm Rf).cons _)
 have hn:=hR.things.flatlen lenT (by decide)
 have hfl:=hR.fields.len
 have HR:=Lib.hid hR
 have HX:=Lib.hid (And.intro ht hat)
 have hmx:maxLen=9223372036854775807:=rfl
 obtain⟨kind,zt,ia,ib,num,goto⟩:=i
 dsimp only at hi
 subst hi
 obtain⟨pv,pf,pc,pn,pcap⟩:=p
 dsimp only at hm
 obtain⟨rfl,hm3⟩:=hm
 have hN:r.things.n=s.things.length:=hn.trans hfl
 clear hn hpm hR ht hat
 obtain⟨ra,rv,⟨tp,tn,tc⟩,rk,rl,re⟩:=r
 dsimp only at hN
 by_cases h100:s.things.length=100
 ·obtain rfl:tn=100:=by omega
  have hC:createS t m s={ s with ending:=5 }:=by rw[createS,if_pos h100]
  have HC:=Lib.hid hC
  clear hC h100 hN hlen
  go_enter Tryz.func100,Tryz.ntmps100
  go_wp2_with (first|(with_reducible first|refine lld hL ?_|((first|refine lbx hL ?_|refine lal hL ?_|refine lbs hL ?_);clear hL;intro bl w1 hL)|(refine lst' hL ?_;clear hL;intro w1 hL))|(go_at_call 53;refine(over_any w0 bm ⟨pv,m,pc,pn,pcap⟩ ins s 5 _ ⟨_,ts,Rv,Rt,Rl,Rf,HR.out,(hL.drop (List.sublist_cons_self _ _) (fun _ h=>h)).perm (List.Perm.cons _ (List.Perm.append_left Rv (by rw[← List.append_assoc Rl Rf Rt];exact List.perm_append_comm)))⟩).mono ?_;rintro e w3 ⟨rfl,hM⟩;dsimp only))
  (try simp only[Exit.inBlock,Exit.then]);(first|refine end0 rfl rfl ?_|refine ret0 rfl rfl ?_)
  exact⟨rfl,by rw[HC.out];exact hM⟩
 ·have hne:((tn:Int)==100)=false:=by simp;omega
  have HN:=Lib.hid (And.intro hN (And.intro hlen (And.intro hm3 (And.intro hmx h100))))
  clear hN hlen hm3 hmx h100 hfl
  go_enter Tryz.func100,Tryz.ntmps100
  go_upto_region 3 with(first|(with_reducible first|refine lld hL ?_|((first|refine lbx hL ?_|refine lal hL ?_|refine lbs hL ?_);clear hL;intro bl w1 hL)|(refine lst' hL ?_;clear hL;intro w1 hL)))
  obtain⟨wq,hwq⟩:∃ x,x=w1:=⟨_,rfl⟩
  subst hwq
  refine draw_begin [13,14,15,16,17,18,19,20,21,22,23,24,25,26,27,28,29,30,31] ?_
  refine dv0 ?_
  refine dv0 ?_
  refine dv1 1 ?_
  refine dv1 2 ?_
  refine dv1 3 ?_
  refine dv1 4 ?_
  refine dv0 ?_
  refine dv1 6 ?_
  refine dv1 7 ?_
  refine dv1 8 ?_
  refine dv1 9 ?_
  refine dv0 ?_
  refine dv1 11 ?_
  refine dv1 12 ?_
  refine dv1 13 ?_
  refine dv1 14 ?_
  refine draw_next (FieldR wq.heap.size m (List.replicate m dV)) FieldR.stable ?_ ?_
  ·intro g w hb v;replace hL:=hL.grow hb;have d15:=yv v 15;clear v;simp only[fillD,fLa,fLb,sTa,sTb];simp only[d15]
   go_wp2_with (refine wp_make_new (n:=m) rfl sValues bValue rfl rfl (by have:=HN.out.2.2.1;omega) (by have:=HN.out.2.2.1;omega) ?_;intro p' cap' R' w' hS' hO' hB')
   exact⟨rfl,_,rfl,hB',_,_,_,rfl,by rw[flat_rep]at hS';exact hS',hO'.mono hb.size⟩
  simp only[apN,apC]
  refine draw_next (ThingR wq.heap.size m ra (List.replicate m dV)) ThingR.stable ?_ ?_
  ·intro g w hb v;replace hL:=hL.grow hb;have d10:=yv v 10;have d16:(FieldR wq.heap.size m (List.replicate m dV)) (g 29) w:=yr v 16;obtain⟨q16,c16,R16,d16,hS16,hO16⟩:=d16;clear v;simp only[fillD,fLa,fLb,sTa,sTb];simp only[d10,d16]
   go_wp2_with (fail)
   exact⟨rfl,_,rfl,Below.refl _ _,_,_,_,rfl,hS16,hO16⟩
  simp only[apN,apC]
  refine draw_next (RowTR wq.heap.size m ra (List.replicate m dV)) RowTR.stable ?_ ?_
  ·intro g w hb v;replace hL:=hL.grow hb;have d17:(ThingR wq.heap.size m ra (List.replicate m dV)) (g 30) w:=yr v 17;obtain⟨q17,c17,R17,d17,hS17,hO17⟩:=d17;clear v;simp only[fillD,fLa,fLb,sTa,sTb];simp only[d17]
   go_wp2_with (fail)
   exact⟨rfl,_,rfl,(Below.refl _ _).alloc (Nat.le_refl _) _,_,_,_,_,rfl,hS17,hO17.grow ((Below.refl _ _).alloc (Nat.le_refl _) _),heap_new _ _⟩
  simp only[apN,apC]
  refine draw_end1 0 hL (by kernel_rfl) (by kernel_rfl) (fun _ _ _ _ _ h=>h) ?_ ?_
  ·(refine late_ok rfl rfl ?_;intro g w hb v;(try simp[depsOf,List.filter_cons,Region.binds,AllR,RAt]at v);simp only[fillD,List.foldl_cons,List.foldl_nil,List.set_cons_succ,List.set_cons_zero];(try simp only[v]);exact⟨_,.inl ⟨rfl,fun w=>(by go_simp<;>(try (split<;>(rename_i hs;simp[hs,cnd]))))⟩,rfl⟩)
  intro g w2 hb hR;simp only[List.length_cons,List.length_nil,Nat.reduceAdd]at hR
  have e0:=yv hR 0
  have e1:=yv hR 1
  have e2:=yv hR 2
  have e3:=yv hR 3
  have e4:=yv hR 4
  have e5:=yv hR 5
  have e6:=yv hR 6
  have e7:=yv hR 7
  have e8:=yv hR 8
  have e9:=yv hR 9
  have e10:=yv hR 10
  have e11:=yv hR 11
  have e12:=yv hR 12
  have e13:=yv hR 13
  have e14:=yv hR 14
  have e15:=yv hR 15
  have e16:(FieldR wq.heap.size m (List.replicate m dV)) (g 29) w2:=yr hR 16
  obtain⟨q16,c16,R16,e16,-,-⟩:=e16
  have e17:(ThingR wq.heap.size m ra (List.replicate m dV)) (g 30) w2:=yr hR 17
  obtain⟨q17,c17,R17,e17,-,-⟩:=e17
  have e18:(RowTR wq.heap.size m ra (List.replicate m dV)) (g 31) w2:=yr hR 18
  obtain⟨qf,cf,Rn,bf,e18,hSf,hOf,hHf⟩:=e18;have hL2:=hL.gainMid (K:=(bl,_,_)::(bm,_,_)::(Rv++(Rl++Rf))) (R:=Rt) (by simp only[List.cons_append,List.append_assoc];rfl) hb hOf;clear hOf
  clear hR;simp only[fillD,fLa,fLb,sTa,sTb]
  simp only[e0,e1,e2,e3,e4,e5,e6,e7,e8,e9,e10,e11,e12,e13,e14,e15,e16,e17,e18]
  clear e0 e1 e2 e3 e4 e5 e6 e7 e8 e9 e10 e11 e12 e13 e14 e15 e16 e17 e18
  replace hL:=hL.grow hb
  clear hb
  replace hL:=hL2
  clear hL2
  go_wp2_with (first|(refine loc_appendS (K:=(bl,_,_)::(bm,_,_)::(Rv++(Rl++(Rf++Rn)))) (R:=Rt) (news:=[.int .i64 ra,.slice qf m cf]) HR.out.things hL (by simp only[List.cons_append,List.append_assoc];rfl) rfl rfl sThings bThing (by decide) rfl (fun _=>⟨⟨bf,0,none⟩,rfl,fun j u hj=>by rw[add_addr,Nat.zero_add];exact heap_cell hHf j hj⟩) rfl (by simp[Value.oneCell']) (by have:=HN.out.1;have:=HN.out.2.1;have:=HN.out.2.2.2.1;omega) (by have:=HN.out.1;have:=HN.out.2.1;omega) ?_;clear hL;intro p4 cap4 Rt4 w4 hS4 hL;simp only[List.cons_append,List.append_assoc]at hL)|(with_reducible first|refine lld hL ?_|((first|refine lbx hL ?_|refine lal hL ?_|refine lbs hL ?_);clear hL;intro bl w1 hL)|(refine lst' hL ?_;clear hL;intro w1 hL)))
  replace hL:=(hL.perm (L':=(bl,_,_)::(bm,_,_)::(Rv++(Rt4++(Rl++(Rf++Rn))))) (List.Perm.cons _ (List.Perm.cons _ (List.Perm.append_left Rv (by rw[← List.append_assoc Rf Rn Rt4,← List.append_assoc Rl (Rf++Rn) Rt4];exact List.perm_append_comm)))))
  have hR2:RowsR ⟨ra,rv,⟨p4,tn+1,cap4⟩,rk,rl,re⟩ { s with things:=s.things++[(s.at',List.replicate m dV)] } (ts++[⟨ra,⟨qf,m,cf⟩⟩]) Rv Rt4 Rl (Rf++Rn):=by
   obtain⟨h1,h2,h3,h4,h5,h6,h7⟩:=HR.out
   refine⟨h1,by simpa [flatT] using hS4,h3,?_,h5,h6,h7⟩
   have:=FRows.snoc (t:=⟨ra,⟨qf,m,cf⟩⟩) h4 hSf
   have h5' : ra=s.at':=h5
   rw[← h5'];exact this
  have HR2:=Lib.hid hR2
  have HS:=Lib.hid (show createS t m s=Rs.set { s with things:=s.things++[(s.at',List.replicate m dV)] } t ⟨3,tn⟩ by rw[createS,if_neg HN.out.2.2.2.2,HN.out.1])
  have hb1:tn≤100:=by have:=HN.out.1;have:=HN.out.2.1;omega
  clear hR2 hS4 hSf hHf HR HN
  go_upto_region 4 with(first|(with_reducible first|refine lld hL ?_|((first|refine lbx hL ?_|refine lal hL ?_|refine lbs hL ?_);clear hL;intro bl w1 hL)|(refine lst' hL ?_;clear hL;intro w1 hL)))
  refine draw_begin [36,37,38,39,40,41,42,43,44,45,46] ?_
  refine dv0 ?_
  refine dv0 ?_
  refine dv1 1 ?_
  refine dv0 ?_
  refine dv1 3 ?_
  refine dv1 4 ?_
  refine dv1 5 ?_
  refine dv1 6 ?_
  refine dv1 7 ?_
  refine dv1 8 ?_
  refine dv1 9 ?_
  refine dnd hL ?_
  clear hL;intro w5 hL;simp only[fillX,sTa,sTb]
  go_wp2_with (first|(with_reducible first|refine lld hL ?_|((first|refine lbx hL ?_|refine lal hL ?_|refine lbs hL ?_);clear hL;intro bl w1 hL)|(refine lst' hL ?_;clear hL;intro w1 hL))|(go_at_call 96;refine(set_any w0 bm ⟨pv,m,pc,pn,pcap⟩ ins _ t ⟨_,_⟩ _ ⟨_,_,Rv,Rt4,Rl,_,HR2.out,hL.drop (List.sublist_cons_self _ _) (fun _ h=>h)⟩ HX.out.1 HX.out.2).mono ?_;rintro e w3 ⟨rfl,hM⟩;dsimp only))
  (try simp only[Exit.inBlock,Exit.then]);(first|refine end0 rfl rfl ?_|refine ret0 rfl rfl ?_)
  refine⟨rfl,?_⟩
  rw[HS.out]
  exact hM
end Go.Proofs.YteoilpcbekijlaaGreatDoor
