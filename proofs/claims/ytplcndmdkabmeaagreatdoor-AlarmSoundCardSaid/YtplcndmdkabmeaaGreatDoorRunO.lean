import Derived.Test.YtplcndmdkabmeaaGreatDoorRunN
set_option linter.unusedSimpArgs false
set_option linter.unusedVariables false
set_option maxRecDepth 100000
set_option maxHeartbeats 2000000
namespace Go.Proofs.YtplcndmdkabmeaaGreatDoor
open Go.RowKit
theorem eql_vl (a b:Vl) (w:World):(binOp .eql 77 (.agg #[.int .i64 a.kind,.int .i64 a.n]) (.agg #[.int .i64 b.kind,.int .i64 b.n])).run Tryz.prog w=.ok (.bool (a.kind==b.kind&&a.n==b.n)) w:=by
 cases h1:(a.kind==b.kind)<;>cases h2:(a.n==b.n)
 all_goals
  go_simp
  try simp_all
theorem eql_guard (x y:Operand) (a b:Vl) (w:World):(eqGuard .eql 77 x y (.agg #[.int .i64 a.kind,.int .i64 a.n]) (.agg #[.int .i64 b.kind,.int .i64 b.n])).run Tryz.prog w=.ok () w:=by
 go_simp
def sameB (a b:Vl):Bool:=a.kind==b.kind&&a.n==b.n
theorem wp_eql_vl {ops:Array Oper}{Q:Exit→Act→World→Prop}{act:Act}{w:World}{rest:List Oper}{d:Option Tmp}{ty u:TypeId}{pos:String}{after:Array Edge}{x y:Operand}{a b:Vl}(ha:act.eval x=a.v) (hb:act.eval y=b.v)
  (h:wpList Tryz.prog ops Q rest (act.put d (.bool (sameB a b))) w):wpList Tryz.prog ops Q (⟨d,.binOp .eql 77 x y u,ty,pos,after,none⟩::rest) act w:=by
 refine wp_bin (w':=w) ?_ ?_ h
 ·rw[ha,hb];exact eql_guard x y a b w
 ·rw[ha,hb];exact eql_vl a b w
theorem step_1 (w0:World) (bm:Nat) (p:Pg) (is:Nat→Ins) (ins:Sl) (s:Rs) (k:Nat) (t:Nat) (ia:Int) (ib:Int) (num goto:Int) (w:World) (h:Mach w0 bm p ins s w) (hk:s.at'=k) (hkn:k<p.n) (hk6:p.n≤60) (hc:CodeAt w0 p is) (hv:0<s.vars.length) (hi:is k=⟨1,(t:Int),ia,ib,num,goto⟩) (ht:t<s.vars.length)  :
  Calls Tryz.prog 47 #[.pointer (some ⟨bm,0,none⟩)] w fun e w'=>e=.returned (.tuple #[])∧Mach w0 bm p ins (s.set t ⟨1,num⟩) w':=by
 obtain⟨r,ts,Rv,Rt,Rl,Rf,hR,hL⟩:=h
 have hvn:=hR.vars.flatlen lenV (by decide)
 obtain⟨gv,cs,hpv,rfl,htk,hlen⟩:=hR.vars.block (by omega)
 simp only[List.cons_append,List.nil_append]at hL
 have HT:=Lib.hid ht
 have hat:0≤s.at'∧s.at'≤1000000:=by omega
 have HAT:=Lib.hid hat
 have hra:r.at'=(k:Int):=hR.a.trans hk
 have HR:=Lib.hid hR
 have HM:=Lib.hid (fun (w' : World) (hL:Loc w0 w' ((bm,100,machC p r ins)::(gv,77,cs)::(Rt++(Rl++Rf))) [])=>(⟨r,ts,[(gv,77,cs)],Rt,Rl,Rf,HR.out,hL⟩:Mach w0 bm p ins s w'))
 obtain⟨bc,oc,hpc,hcr⟩:=hc.reads
 have hpc2:=hpc (by omega)
 have hI:=hcr k hkn
 rw[hi]at hI
 have HI:=Lib.hid hI
 clear hR hvn htk hlen hcr hpc hI hi hc hk hat ht
 obtain⟨pv,pf,pc,pn,pcap⟩:=p
 dsimp only at hpc2 hkn hk6
 subst hpc2
 obtain⟨ra,⟨vp,vn,vc⟩,rt,rk,rl,re⟩:=r
 dsimp only at hpv hra
 subst hpv
 subst hra
 have hne:((k:Int)==(pn:Int))=false:=by simp;omega
 go_enter Tryz.func47,Tryz.ntmps47
 go_upto_region 0 with(first|(with_reducible first|refine lld hL ?_|((first|refine lbx hL ?_|refine lal hL ?_|refine lbs hL ?_);clear hL;intro bl w1 hL)|(refine lst' hL ?_;clear hL;intro w1 hL)))
 refine draw_begin [5,6,7,8,9,10,11,12,13,14,15,16] ?_
 refine dv0 ?_
 refine dv1 0 ?_
 refine dv1 1 ?_
 refine dv1 2 ?_
 refine dv1 3 ?_
 refine dv0 ?_
 refine dv1 5 ?_
 refine dv1 6 ?_
 refine dv1 7 ?_
 refine dv1 8 ?_
 refine dv1 9 ?_
 refine dv2 4 10 ?_
 refine dnd hL ?_
 clear hL;intro w1 hL;simp only[fillX,sTa,sTb]
 go_upto_region 2 with(first|(with_reducible first|refine lld hL ?_|((first|refine lbx hL ?_|refine lal hL ?_|refine lbs hL ?_);clear hL;intro bl w1 hL)|(refine lst' hL ?_;clear hL;intro w1 hL)))
 refine draw_begin [19,20,21,22,23,24,25,26,27,28,29,30,2] ?_
 refine dv0 ?_
 refine dv1 0 ?_
 refine dv1 1 ?_
 refine dv1 2 ?_
 refine dv1 3 ?_
 refine dv0 ?_
 refine dv1 5 ?_
 refine dv1 6 ?_
 refine dv1 7 ?_
 refine dv1 8 ?_
 refine dv2 4 9 ?_
 apply draw_val
 ·intro g w hb v;replace hL:=hL.grow hb;have d10:=yv v 10;clear v;simp only[fillD,fLa,fLb,sTa,sTb];simp only[d10]
  refine loc_loadB HI.out hL rfl rfl ?_
  exact cY
 simp only[apN,apC]
 apply draw_ptr
 ·intro g w hb v;replace hL:=hL.grow hb;clear v;simp only[fillD,fLa,fLb,sTa,sTb]
  go_wp2
  exact⟨rfl,_,rfl,(Below.refl _ _).alloc (Nat.le_refl _) _,_,hb.size,rfl,heap_new _ _⟩
 simp only[apN,apC]
 refine draw_end hL (by kernel_rfl) (by kernel_rfl) ?_
 intro g w2 hb hR;simp only[List.length_cons,List.length_nil,Nat.reduceAdd]at hR
 have e0:=yv hR 0
 have e1:=yv hR 1
 have e2:=yv hR 2
 have e3:=yv hR 3
 have e4:=yv hR 4
 have e5:=yv hR 5
 have e6:=yv hR 6
 have e7:=yv hR 7
 have e8:=yv hR 8
 have e9:=yv hR 9
 have e10:=yv hR 10
 have e11:=yv hR 11
 obtain⟨b12,p12,e12,c12⟩:=rat_ptr (allR_get hR (j:=12) (by decide)) rfl rfl
 clear hR;simp only[fillD,fLa,fLb,sTa,sTb]
 simp only[e0,e1,e2,e3,e4,e5,e6,e7,e8,e9,e10,e11,e12]
 clear e0 e1 e2 e3 e4 e5 e6 e7 e8 e9 e10 e11 e12
 replace hL:=hL.gain hb p12 c12
 clear p12 c12
 clear hb
 clear HI
 go_wp2_with (first|(with_reducible first|refine lld hL ?_|((first|refine lbx hL ?_|refine lal hL ?_|refine lbs hL ?_);clear hL;intro bl w1 hL)|(refine lst' hL ?_;clear hL;intro w1 hL))|(go_at_call 88;refine(set_any w0 bm ⟨pv,pf,some ⟨bc,oc,none⟩,pn,pcap⟩ ins s t ⟨_,_⟩ _ (HM.out _ (hL.drop (by repeat (first|exact List.Sublist.refl _|apply List.Sublist.cons)) (fun _ h=>h))) HT.out HAT.out).mono ?_;rintro e w3 ⟨rfl,hM⟩;dsimp only))
 (try simp only[Exit.inBlock,Exit.then]);(first|refine end0 rfl rfl ?_|refine ret0 rfl rfl ?_)
 exact⟨rfl,hM⟩
theorem step_2 (w0:World) (bm:Nat) (p:Pg) (is:Nat→Ins) (ins:Sl) (s:Rs) (k:Nat) (t:Nat) (ia:Int) (ib:Int) (num goto:Int) (w:World) (h:Mach w0 bm p ins s w) (hk:s.at'=k) (hkn:k<p.n) (hk6:p.n≤60) (hc:CodeAt w0 p is) (hv:0<s.vars.length) (hi:is k=⟨2,(t:Int),ia,ib,num,goto⟩) (ht:t<s.vars.length)  :
  Calls Tryz.prog 47 #[.pointer (some ⟨bm,0,none⟩)] w fun e w'=>e=.returned (.tuple #[])∧Mach w0 bm p ins (s.set t (truthV (num==1))) w':=by
 obtain⟨r,ts,Rv,Rt,Rl,Rf,hR,hL⟩:=h
 have hvn:=hR.vars.flatlen lenV (by decide)
 obtain⟨gv,cs,hpv,rfl,htk,hlen⟩:=hR.vars.block (by omega)
 simp only[List.cons_append,List.nil_append]at hL
 have HT:=Lib.hid ht
 have hat:0≤s.at'∧s.at'≤1000000:=by omega
 have HAT:=Lib.hid hat
 have hra:r.at'=(k:Int):=hR.a.trans hk
 have HR:=Lib.hid hR
 have HM:=Lib.hid (fun (w' : World) (hL:Loc w0 w' ((bm,100,machC p r ins)::(gv,77,cs)::(Rt++(Rl++Rf))) [])=>(⟨r,ts,[(gv,77,cs)],Rt,Rl,Rf,HR.out,hL⟩:Mach w0 bm p ins s w'))
 obtain⟨bc,oc,hpc,hcr⟩:=hc.reads
 have hpc2:=hpc (by omega)
 have hI:=hcr k hkn
 rw[hi]at hI
 have HI:=Lib.hid hI
 clear hR hvn htk hlen hcr hpc hI hi hc hk hat ht
 obtain⟨pv,pf,pc,pn,pcap⟩:=p
 dsimp only at hpc2 hkn hk6
 subst hpc2
 obtain⟨ra,⟨vp,vn,vc⟩,rt,rk,rl,re⟩:=r
 dsimp only at hpv hra
 subst hpv
 subst hra
 have hne:((k:Int)==(pn:Int))=false:=by simp;omega
 go_enter Tryz.func47,Tryz.ntmps47
 go_upto_region 0 with(first|(with_reducible first|refine lld hL ?_|((first|refine lbx hL ?_|refine lal hL ?_|refine lbs hL ?_);clear hL;intro bl w1 hL)|(refine lst' hL ?_;clear hL;intro w1 hL)))
 refine draw_begin [5,6,7,8,9,10,11,12,13,14,15,16] ?_
 refine dv0 ?_
 refine dv1 0 ?_
 refine dv1 1 ?_
 refine dv1 2 ?_
 refine dv1 3 ?_
 refine dv0 ?_
 refine dv1 5 ?_
 refine dv1 6 ?_
 refine dv1 7 ?_
 refine dv1 8 ?_
 refine dv1 9 ?_
 refine dv2 4 10 ?_
 refine dnd hL ?_
 clear hL;intro w1 hL;simp only[fillX,sTa,sTb]
 go_upto_region 2 with(first|(with_reducible first|refine lld hL ?_|((first|refine lbx hL ?_|refine lal hL ?_|refine lbs hL ?_);clear hL;intro bl w1 hL)|(refine lst' hL ?_;clear hL;intro w1 hL)))
 refine draw_begin [19,20,21,22,23,24,25,26,27,28,29,30,2] ?_
 refine dv0 ?_
 refine dv1 0 ?_
 refine dv1 1 ?_
 refine dv1 2 ?_
 refine dv1 3 ?_
 refine dv0 ?_
 refine dv1 5 ?_
 refine dv1 6 ?_
 refine dv1 7 ?_
 refine dv1 8 ?_
 refine dv2 4 9 ?_
 apply draw_val
 ·intro g w hb v;replace hL:=hL.grow hb;have d10:=yv v 10;clear v;simp only[fillD,fLa,fLb,sTa,sTb];simp only[d10]
  refine loc_loadB HI.out hL rfl rfl ?_
  exact cY
 simp only[apN,apC]
 apply draw_ptr
 ·intro g w hb v;replace hL:=hL.grow hb;clear v;simp only[fillD,fLa,fLb,sTa,sTb]
  go_wp2
  exact⟨rfl,_,rfl,(Below.refl _ _).alloc (Nat.le_refl _) _,_,hb.size,rfl,heap_new _ _⟩
 simp only[apN,apC]
 refine draw_end hL (by kernel_rfl) (by kernel_rfl) ?_
 intro g w2 hb hR;simp only[List.length_cons,List.length_nil,Nat.reduceAdd]at hR
 have e0:=yv hR 0
 have e1:=yv hR 1
 have e2:=yv hR 2
 have e3:=yv hR 3
 have e4:=yv hR 4
 have e5:=yv hR 5
 have e6:=yv hR 6
 have e7:=yv hR 7
 have e8:=yv hR 8
 have e9:=yv hR 9
 have e10:=yv hR 10
 have e11:=yv hR 11
 obtain⟨b12,p12,e12,c12⟩:=rat_ptr (allR_get hR (j:=12) (by decide)) rfl rfl
 clear hR;simp only[fillD,fLa,fLb,sTa,sTb]
 simp only[e0,e1,e2,e3,e4,e5,e6,e7,e8,e9,e10,e11,e12]
 clear e0 e1 e2 e3 e4 e5 e6 e7 e8 e9 e10 e11 e12
 replace hL:=hL.gain hb p12 c12
 clear p12 c12
 clear hb
 clear HI
 go_upto_region 8 with(first|(with_reducible first|refine lld hL ?_|((first|refine lbx hL ?_|refine lal hL ?_|refine lbs hL ?_);clear hL;intro bl w1 hL)|(refine lst' hL ?_;clear hL;intro w1 hL)))
 refine draw_begin [47,48,49,50,51,52,53] ?_
 refine dv0 ?_
 refine dv0 ?_
 refine dv1 1 ?_
 refine dv0 ?_
 refine dv1 3 ?_
 refine dv1 4 ?_
 apply draw_val
 ·intro g w hb v;replace hL:=hL.grow hb;have d5:=yv v 5;clear v;simp only[fillD,fLa,fLb,sTa,sTb];simp only[d5]
  go_wp2_with (go_at_call 89;refine(truth_any _ _).mono ?_;rintro e w3 ⟨rfl,hb3⟩;dsimp only)
  exact⟨rfl,_,rfl,hb3,rfl⟩
 simp only[apN,apC]
 refine dnd hL ?_
 clear hL;intro w5 hL;simp only[fillX,sTa,sTb]
 go_wp2_with (first|(with_reducible first|refine lld hL ?_|((first|refine lbx hL ?_|refine lal hL ?_|refine lbs hL ?_);clear hL;intro bl w1 hL)|(refine lst' hL ?_;clear hL;intro w1 hL))|(go_at_call 88;refine(set_any w0 bm ⟨pv,pf,some ⟨bc,oc,none⟩,pn,pcap⟩ ins s t (truthV _) _ (HM.out _ (hL.drop (by repeat (first|exact List.Sublist.refl _|apply List.Sublist.cons)) (fun _ h=>h))) HT.out HAT.out).mono ?_;rintro e w3 ⟨rfl,hM⟩;dsimp only))
 (try simp only[Exit.inBlock,Exit.then]);(first|refine end0 rfl rfl ?_|refine ret0 rfl rfl ?_)
 exact⟨rfl,hM⟩
theorem step_3 (w0:World) (bm:Nat) (p:Pg) (is:Nat→Ins) (ins:Sl) (s:Rs) (k:Nat) (t:Nat) (ia:Int) (ib:Int) (num goto:Int) (w:World) (h:Mach w0 bm p ins s w) (hk:s.at'=k) (hkn:k<p.n) (hk6:p.n≤60) (hc:CodeAt w0 p is) (hv:0<s.vars.length) (hi:is k=⟨3,(t:Int),ia,ib,num,goto⟩) (ht:t<s.vars.length)  :
  Calls Tryz.prog 47 #[.pointer (some ⟨bm,0,none⟩)] w fun e w'=>e=.returned (.tuple #[])∧Mach w0 bm p ins (s.set t dV) w':=by
 obtain⟨r,ts,Rv,Rt,Rl,Rf,hR,hL⟩:=h
 have hvn:=hR.vars.flatlen lenV (by decide)
 obtain⟨gv,cs,hpv,rfl,htk,hlen⟩:=hR.vars.block (by omega)
 simp only[List.cons_append,List.nil_append]at hL
 have HT:=Lib.hid ht
 have hat:0≤s.at'∧s.at'≤1000000:=by omega
 have HAT:=Lib.hid hat
 have hra:r.at'=(k:Int):=hR.a.trans hk
 have HR:=Lib.hid hR
 have HM:=Lib.hid (fun (w' : World) (hL:Loc w0 w' ((bm,100,machC p r ins)::(gv,77,cs)::(Rt++(Rl++Rf))) [])=>(⟨r,ts,[(gv,77,cs)],Rt,Rl,Rf,HR.out,hL⟩:Mach w0 bm p ins s w'))
 obtain⟨bc,oc,hpc,hcr⟩:=hc.reads
 have hpc2:=hpc (by omega)
 have hI:=hcr k hkn
 rw[hi]at hI
 have HI:=Lib.hid hI
 clear hR hvn htk hlen hcr hpc hI hi hc hk hat ht
 obtain⟨pv,pf,pc,pn,pcap⟩:=p
 dsimp only at hpc2 hkn hk6
 subst hpc2
 obtain⟨ra,⟨vp,vn,vc⟩,rt,rk,rl,re⟩:=r
 dsimp only at hpv hra
 subst hpv
 subst hra
 have hne:((k:Int)==(pn:Int))=false:=by simp;omega
 go_enter Tryz.func47,Tryz.ntmps47
 go_upto_region 0 with(first|(with_reducible first|refine lld hL ?_|((first|refine lbx hL ?_|refine lal hL ?_|refine lbs hL ?_);clear hL;intro bl w1 hL)|(refine lst' hL ?_;clear hL;intro w1 hL)))
 refine draw_begin [5,6,7,8,9,10,11,12,13,14,15,16] ?_
 refine dv0 ?_
 refine dv1 0 ?_
 refine dv1 1 ?_
 refine dv1 2 ?_
 refine dv1 3 ?_
 refine dv0 ?_
 refine dv1 5 ?_
 refine dv1 6 ?_
 refine dv1 7 ?_
 refine dv1 8 ?_
 refine dv1 9 ?_
 refine dv2 4 10 ?_
 refine dnd hL ?_
 clear hL;intro w1 hL;simp only[fillX,sTa,sTb]
 go_upto_region 2 with(first|(with_reducible first|refine lld hL ?_|((first|refine lbx hL ?_|refine lal hL ?_|refine lbs hL ?_);clear hL;intro bl w1 hL)|(refine lst' hL ?_;clear hL;intro w1 hL)))
 refine draw_begin [19,20,21,22,23,24,25,26,27,28,29,30,2] ?_
 refine dv0 ?_
 refine dv1 0 ?_
 refine dv1 1 ?_
 refine dv1 2 ?_
 refine dv1 3 ?_
 refine dv0 ?_
 refine dv1 5 ?_
 refine dv1 6 ?_
 refine dv1 7 ?_
 refine dv1 8 ?_
 refine dv2 4 9 ?_
 apply draw_val
 ·intro g w hb v;replace hL:=hL.grow hb;have d10:=yv v 10;clear v;simp only[fillD,fLa,fLb,sTa,sTb];simp only[d10]
  refine loc_loadB HI.out hL rfl rfl ?_
  exact cY
 simp only[apN,apC]
 apply draw_ptr
 ·intro g w hb v;replace hL:=hL.grow hb;clear v;simp only[fillD,fLa,fLb,sTa,sTb]
  go_wp2
  exact⟨rfl,_,rfl,(Below.refl _ _).alloc (Nat.le_refl _) _,_,hb.size,rfl,heap_new _ _⟩
 simp only[apN,apC]
 refine draw_end hL (by kernel_rfl) (by kernel_rfl) ?_
 intro g w2 hb hR;simp only[List.length_cons,List.length_nil,Nat.reduceAdd]at hR
 have e0:=yv hR 0
 have e1:=yv hR 1
 have e2:=yv hR 2
 have e3:=yv hR 3
 have e4:=yv hR 4
 have e5:=yv hR 5
 have e6:=yv hR 6
 have e7:=yv hR 7
 have e8:=yv hR 8
 have e9:=yv hR 9
 have e10:=yv hR 10
 have e11:=yv hR 11
 obtain⟨b12,p12,e12,c12⟩:=rat_ptr (allR_get hR (j:=12) (by decide)) rfl rfl
 clear hR;simp only[fillD,fLa,fLb,sTa,sTb]
 simp only[e0,e1,e2,e3,e4,e5,e6,e7,e8,e9,e10,e11,e12]
 clear e0 e1 e2 e3 e4 e5 e6 e7 e8 e9 e10 e11 e12
 replace hL:=hL.gain hb p12 c12
 clear p12 c12
 clear hb
 clear HI
 go_wp2_with (first|(with_reducible first|refine lld hL ?_|((first|refine lbx hL ?_|refine lal hL ?_|refine lbs hL ?_);clear hL;intro bl w1 hL)|(refine lst' hL ?_;clear hL;intro w1 hL))|(go_at_call 88;refine(set_any w0 bm ⟨pv,pf,some ⟨bc,oc,none⟩,pn,pcap⟩ ins s t dV _ (HM.out _ (hL.drop (by repeat (first|exact List.Sublist.refl _|apply List.Sublist.cons)) (fun _ h=>h))) HT.out HAT.out).mono ?_;rintro e w3 ⟨rfl,hM⟩;dsimp only))
 (try simp only[Exit.inBlock,Exit.then]);(first|refine end0 rfl rfl ?_|refine ret0 rfl rfl ?_)
 exact⟨rfl,hM⟩
theorem step_4 (w0:World) (bm:Nat) (p:Pg) (is:Nat→Ins) (ins:Sl) (s:Rs) (k:Nat) (t:Nat) (a:Nat) (ib:Int) (num goto:Int) (w:World) (h:Mach w0 bm p ins s w) (hk:s.at'=k) (hkn:k<p.n) (hk6:p.n≤60) (hc:CodeAt w0 p is) (hv:0<s.vars.length) (hi:is k=⟨4,(t:Int),(a:Int),ib,num,goto⟩) (ht:t<s.vars.length) (ha:a<s.vars.length)  :
  Calls Tryz.prog 47 #[.pointer (some ⟨bm,0,none⟩)] w fun e w'=>e=.returned (.tuple #[])∧Mach w0 bm p ins (s.set t (s.val a)) w':=by
 obtain⟨r,ts,Rv,Rt,Rl,Rf,hR,hL⟩:=h
 have hvn:=hR.vars.flatlen lenV (by decide)
 obtain⟨gv,cs,hpv,rfl,htk,hlen⟩:=hR.vars.block (by omega)
 simp only[List.cons_append,List.nil_append]at hL
 obtain⟨va,hva⟩:∃ x,x=s.val a:=⟨_,rfl⟩
 have HA:=Lib.hid (show Reads Tryz.prog 77 cs (a*2) va.v by rw[hva];exact Reads.agg tValue (hR.vars.elem lenV dV (k:=a) (by omega)) rfl)
 have HAV:=Lib.hid hva
 have ha1:a<r.vars.n:=by omega
 have HT:=Lib.hid ht
 have HAL:=Lib.hid ha
 have hat:0≤s.at'∧s.at'≤1000000:=by omega
 have HAT:=Lib.hid hat
 have hra:r.at'=(k:Int):=hR.a.trans hk
 have HR:=Lib.hid hR
 have HM:=Lib.hid (fun (w' : World) (hL:Loc w0 w' ((bm,100,machC p r ins)::(gv,77,cs)::(Rt++(Rl++Rf))) [])=>(⟨r,ts,[(gv,77,cs)],Rt,Rl,Rf,HR.out,hL⟩:Mach w0 bm p ins s w'))
 obtain⟨bc,oc,hpc,hcr⟩:=hc.reads
 have hpc2:=hpc (by omega)
 have hI:=hcr k hkn
 rw[hi]at hI
 have HI:=Lib.hid hI
 clear hR hvn htk hlen hcr hpc hI hi hc hk hat ht ha hva
 obtain⟨pv,pf,pc,pn,pcap⟩:=p
 dsimp only at hpc2 hkn hk6
 subst hpc2
 obtain⟨ra,⟨vp,vn,vc⟩,rt,rk,rl,re⟩:=r
 dsimp only at hpv hra ha1
 subst hpv
 subst hra
 have hne:((k:Int)==(pn:Int))=false:=by simp;omega
 go_enter Tryz.func47,Tryz.ntmps47
 go_upto_region 0 with(first|(with_reducible first|refine lld hL ?_|((first|refine lbx hL ?_|refine lal hL ?_|refine lbs hL ?_);clear hL;intro bl w1 hL)|(refine lst' hL ?_;clear hL;intro w1 hL)))
 refine draw_begin [5,6,7,8,9,10,11,12,13,14,15,16] ?_
 refine dv0 ?_
 refine dv1 0 ?_
 refine dv1 1 ?_
 refine dv1 2 ?_
 refine dv1 3 ?_
 refine dv0 ?_
 refine dv1 5 ?_
 refine dv1 6 ?_
 refine dv1 7 ?_
 refine dv1 8 ?_
 refine dv1 9 ?_
 refine dv2 4 10 ?_
 refine dnd hL ?_
 clear hL;intro w1 hL;simp only[fillX,sTa,sTb]
 go_upto_region 2 with(first|(with_reducible first|refine lld hL ?_|((first|refine lbx hL ?_|refine lal hL ?_|refine lbs hL ?_);clear hL;intro bl w1 hL)|(refine lst' hL ?_;clear hL;intro w1 hL)))
 refine draw_begin [19,20,21,22,23,24,25,26,27,28,29,30,2] ?_
 refine dv0 ?_
 refine dv1 0 ?_
 refine dv1 1 ?_
 refine dv1 2 ?_
 refine dv1 3 ?_
 refine dv0 ?_
 refine dv1 5 ?_
 refine dv1 6 ?_
 refine dv1 7 ?_
 refine dv1 8 ?_
 refine dv2 4 9 ?_
 apply draw_val
 ·intro g w hb v;replace hL:=hL.grow hb;have d10:=yv v 10;clear v;simp only[fillD,fLa,fLb,sTa,sTb];simp only[d10]
  refine loc_loadB HI.out hL rfl rfl ?_
  exact cY
 simp only[apN,apC]
 apply draw_ptr
 ·intro g w hb v;replace hL:=hL.grow hb;clear v;simp only[fillD,fLa,fLb,sTa,sTb]
  go_wp2
  exact⟨rfl,_,rfl,(Below.refl _ _).alloc (Nat.le_refl _) _,_,hb.size,rfl,heap_new _ _⟩
 simp only[apN,apC]
 refine draw_end hL (by kernel_rfl) (by kernel_rfl) ?_
 intro g w2 hb hR;simp only[List.length_cons,List.length_nil,Nat.reduceAdd]at hR
 have e0:=yv hR 0
 have e1:=yv hR 1
 have e2:=yv hR 2
 have e3:=yv hR 3
 have e4:=yv hR 4
 have e5:=yv hR 5
 have e6:=yv hR 6
 have e7:=yv hR 7
 have e8:=yv hR 8
 have e9:=yv hR 9
 have e10:=yv hR 10
 have e11:=yv hR 11
 obtain⟨b12,p12,e12,c12⟩:=rat_ptr (allR_get hR (j:=12) (by decide)) rfl rfl
 clear hR;simp only[fillD,fLa,fLb,sTa,sTb]
 simp only[e0,e1,e2,e3,e4,e5,e6,e7,e8,e9,e10,e11,e12]
 clear e0 e1 e2 e3 e4 e5 e6 e7 e8 e9 e10 e11 e12
 replace hL:=hL.gain hb p12 c12
 clear p12 c12
 clear hb
 clear HI
 go_upto_region 12 with(first|(with_reducible first|refine lld hL ?_|((first|refine lbx hL ?_|refine lal hL ?_|refine lbs hL ?_);clear hL;intro bl w1 hL)|(refine lst' hL ?_;clear hL;intro w1 hL)))
 refine draw_begin [64,65,66,67,68,69,70,71,72,73,74,75] ?_
 refine dv0 ?_
 refine dv0 ?_
 refine dv1 1 ?_
 refine dv0 ?_
 refine dv1 3 ?_
 refine dv1 4 ?_
 refine dv1 5 ?_
 refine dv1 6 ?_
 refine dv0 ?_
 refine dv1 8 ?_
 refine dv2 7 9 ?_
 apply draw_val
 ·intro g w hb v;replace hL:=hL.grow hb;have d10:=yv v 10;clear v;simp only[fillD,fLa,fLb,sTa,sTb];simp only[d10]
  refine loc_load hL rfl rfl cIn HA.out ?_
  exact cY
 simp only[apN,apC]
 refine dnd hL ?_
 clear hL;intro w5 hL;simp only[fillX,sTa,sTb]
 go_wp2_with (first|(with_reducible first|refine lld hL ?_|((first|refine lbx hL ?_|refine lal hL ?_|refine lbs hL ?_);clear hL;intro bl w1 hL)|(refine lst' hL ?_;clear hL;intro w1 hL))|(go_at_call 88;refine(set_any w0 bm ⟨pv,pf,some ⟨bc,oc,none⟩,pn,pcap⟩ ins s t va _ (HM.out _ (hL.drop (by repeat (first|exact List.Sublist.refl _|apply List.Sublist.cons)) (fun _ h=>h))) HT.out HAT.out).mono ?_;rintro e w3 ⟨rfl,hM⟩;dsimp only))
 (try simp only[Exit.inBlock,Exit.then]);(first|refine end0 rfl rfl ?_|refine ret0 rfl rfl ?_)
 exact⟨rfl,by rw[← HAV.out];exact hM⟩
theorem step_5 (w0:World) (bm:Nat) (p:Pg) (is:Nat→Ins) (ins:Sl) (s:Rs) (k:Nat) (t:Nat) (a:Nat) (b:Nat) (num goto:Int) (w:World) (h:Mach w0 bm p ins s w) (hk:s.at'=k) (hkn:k<p.n) (hk6:p.n≤60) (hc:CodeAt w0 p is) (hv:0<s.vars.length) (hi:is k=⟨5,(t:Int),(a:Int),(b:Int),num,goto⟩) (ht:t<s.vars.length) (ha:a<s.vars.length) (hb:b<s.vars.length) (hn:((s.val a).kind=1→Num32 (s.val a).n)∧((s.val b).kind=1→Num32 (s.val b).n)):
  Calls Tryz.prog 47 #[.pointer (some ⟨bm,0,none⟩)] w fun e w'=>e=.returned (.tuple #[])∧Mach w0 bm p ins (countS 5 t a b s) w':=by
 obtain⟨r,ts,Rv,Rt,Rl,Rf,hR,hL⟩:=h
 have hvn:=hR.vars.flatlen lenV (by decide)
 obtain⟨gv,cs,hpv,rfl,htk,hlen⟩:=hR.vars.block (by omega)
 simp only[List.cons_append,List.nil_append]at hL
 have HT:=Lib.hid ht
 have HAL:=Lib.hid ha
 have HBL:=Lib.hid hb
 have hat:0≤s.at'∧s.at'≤1000000:=by omega
 have HAT:=Lib.hid hat
 have hra:r.at'=(k:Int):=hR.a.trans hk
 have HR:=Lib.hid hR
 have HM:=Lib.hid (fun (w' : World) (hL:Loc w0 w' ((bm,100,machC p r ins)::(gv,77,cs)::(Rt++(Rl++Rf))) [])=>(⟨r,ts,[(gv,77,cs)],Rt,Rl,Rf,HR.out,hL⟩:Mach w0 bm p ins s w'))
 obtain⟨bc,oc,hpc,hcr⟩:=hc.reads
 have hpc2:=hpc (by omega)
 have hI:=hcr k hkn
 rw[hi]at hI
 have HI:=Lib.hid hI
 have HN:=Lib.hid hn
 clear hn
 clear hR hvn htk hlen hcr hpc hI hi hc hk hat ht ha hb
 obtain⟨pv,pf,pc,pn,pcap⟩:=p
 dsimp only at hpc2 hkn hk6
 subst hpc2
 obtain⟨ra,⟨vp,vn,vc⟩,rt,rk,rl,re⟩:=r
 dsimp only at hpv hra
 subst hpv
 subst hra
 have hne:((k:Int)==(pn:Int))=false:=by simp;omega
 go_enter Tryz.func47,Tryz.ntmps47
 go_upto_region 0 with(first|(with_reducible first|refine lld hL ?_|((first|refine lbx hL ?_|refine lal hL ?_|refine lbs hL ?_);clear hL;intro bl w1 hL)|(refine lst' hL ?_;clear hL;intro w1 hL)))
 refine draw_begin [5,6,7,8,9,10,11,12,13,14,15,16] ?_
 refine dv0 ?_
 refine dv1 0 ?_
 refine dv1 1 ?_
 refine dv1 2 ?_
 refine dv1 3 ?_
 refine dv0 ?_
 refine dv1 5 ?_
 refine dv1 6 ?_
 refine dv1 7 ?_
 refine dv1 8 ?_
 refine dv1 9 ?_
 refine dv2 4 10 ?_
 refine dnd hL ?_
 clear hL;intro w1 hL;simp only[fillX,sTa,sTb]
 go_upto_region 2 with(first|(with_reducible first|refine lld hL ?_|((first|refine lbx hL ?_|refine lal hL ?_|refine lbs hL ?_);clear hL;intro bl w1 hL)|(refine lst' hL ?_;clear hL;intro w1 hL)))
 refine draw_begin [19,20,21,22,23,24,25,26,27,28,29,30,2] ?_
 refine dv0 ?_
 refine dv1 0 ?_
 refine dv1 1 ?_
 refine dv1 2 ?_
 refine dv1 3 ?_
 refine dv0 ?_
 refine dv1 5 ?_
 refine dv1 6 ?_
 refine dv1 7 ?_
 refine dv1 8 ?_
 refine dv2 4 9 ?_
 apply draw_val
 ·intro g w hb v;replace hL:=hL.grow hb;have d10:=yv v 10;clear v;simp only[fillD,fLa,fLb,sTa,sTb];simp only[d10]
  refine loc_loadB HI.out hL rfl rfl ?_
  exact cY
 simp only[apN,apC]
 apply draw_ptr
 ·intro g w hb v;replace hL:=hL.grow hb;clear v;simp only[fillD,fLa,fLb,sTa,sTb]
  go_wp2
  exact⟨rfl,_,rfl,(Below.refl _ _).alloc (Nat.le_refl _) _,_,hb.size,rfl,heap_new _ _⟩
 simp only[apN,apC]
 refine draw_end hL (by kernel_rfl) (by kernel_rfl) ?_
 intro g w2 hb hR;simp only[List.length_cons,List.length_nil,Nat.reduceAdd]at hR
 have e0:=yv hR 0
 have e1:=yv hR 1
 have e2:=yv hR 2
 have e3:=yv hR 3
 have e4:=yv hR 4
 have e5:=yv hR 5
 have e6:=yv hR 6
 have e7:=yv hR 7
 have e8:=yv hR 8
 have e9:=yv hR 9
 have e10:=yv hR 10
 have e11:=yv hR 11
 obtain⟨b12,p12,e12,c12⟩:=rat_ptr (allR_get hR (j:=12) (by decide)) rfl rfl
 clear hR;simp only[fillD,fLa,fLb,sTa,sTb]
 simp only[e0,e1,e2,e3,e4,e5,e6,e7,e8,e9,e10,e11,e12]
 clear e0 e1 e2 e3 e4 e5 e6 e7 e8 e9 e10 e11 e12
 replace hL:=hL.gain hb p12 c12
 clear p12 c12
 clear hb
 clear HI
 go_wp2_with (first|(with_reducible first|refine lld hL ?_|((first|refine lbx hL ?_|refine lal hL ?_|refine lbs hL ?_);clear hL;intro bl w1 hL)|(refine lst' hL ?_;clear hL;intro w1 hL))|(go_at_call 90;refine(count_any w0 bm ⟨pv,pf,some ⟨bc,oc,none⟩,pn,pcap⟩ ins s ⟨_,_,_,_,_,_⟩ t a b _ (HM.out _ (hL.drop (by repeat (first|exact List.Sublist.refl _|apply List.Sublist.cons)) (fun _ h=>h))) ⟨rfl,rfl,rfl⟩ HT.out HAL.out HBL.out (by simp) HAT.out HN.out.1 HN.out.2).mono ?_;rintro e w3 ⟨rfl,hM⟩;dsimp only))
 (try simp only[Exit.inBlock,Exit.then]);(first|refine end0 rfl rfl ?_|refine ret0 rfl rfl ?_)
 exact⟨rfl,hM⟩
theorem step_6 (w0:World) (bm:Nat) (p:Pg) (is:Nat→Ins) (ins:Sl) (s:Rs) (k:Nat) (t:Nat) (a:Nat) (b:Nat) (num goto:Int) (w:World) (h:Mach w0 bm p ins s w) (hk:s.at'=k) (hkn:k<p.n) (hk6:p.n≤60) (hc:CodeAt w0 p is) (hv:0<s.vars.length) (hi:is k=⟨6,(t:Int),(a:Int),(b:Int),num,goto⟩) (ht:t<s.vars.length) (ha:a<s.vars.length) (hb:b<s.vars.length) (hn:((s.val a).kind=1→Num32 (s.val a).n)∧((s.val b).kind=1→Num32 (s.val b).n)):
  Calls Tryz.prog 47 #[.pointer (some ⟨bm,0,none⟩)] w fun e w'=>e=.returned (.tuple #[])∧Mach w0 bm p ins (countS 6 t a b s) w':=by
 obtain⟨r,ts,Rv,Rt,Rl,Rf,hR,hL⟩:=h
 have hvn:=hR.vars.flatlen lenV (by decide)
 obtain⟨gv,cs,hpv,rfl,htk,hlen⟩:=hR.vars.block (by omega)
 simp only[List.cons_append,List.nil_append]at hL
 have HT:=Lib.hid ht
 have HAL:=Lib.hid ha
 have HBL:=Lib.hid hb
 have hat:0≤s.at'∧s.at'≤1000000:=by omega
 have HAT:=Lib.hid hat
 have hra:r.at'=(k:Int):=hR.a.trans hk
 have HR:=Lib.hid hR
 have HM:=Lib.hid (fun (w' : World) (hL:Loc w0 w' ((bm,100,machC p r ins)::(gv,77,cs)::(Rt++(Rl++Rf))) [])=>(⟨r,ts,[(gv,77,cs)],Rt,Rl,Rf,HR.out,hL⟩:Mach w0 bm p ins s w'))
 obtain⟨bc,oc,hpc,hcr⟩:=hc.reads
 have hpc2:=hpc (by omega)
 have hI:=hcr k hkn
 rw[hi]at hI
 have HI:=Lib.hid hI
 have HN:=Lib.hid hn
 clear hn
 clear hR hvn htk hlen hcr hpc hI hi hc hk hat ht ha hb
 obtain⟨pv,pf,pc,pn,pcap⟩:=p
 dsimp only at hpc2 hkn hk6
 subst hpc2
 obtain⟨ra,⟨vp,vn,vc⟩,rt,rk,rl,re⟩:=r
 dsimp only at hpv hra
 subst hpv
 subst hra
 have hne:((k:Int)==(pn:Int))=false:=by simp;omega
 go_enter Tryz.func47,Tryz.ntmps47
 go_upto_region 0 with(first|(with_reducible first|refine lld hL ?_|((first|refine lbx hL ?_|refine lal hL ?_|refine lbs hL ?_);clear hL;intro bl w1 hL)|(refine lst' hL ?_;clear hL;intro w1 hL)))
 refine draw_begin [5,6,7,8,9,10,11,12,13,14,15,16] ?_
 refine dv0 ?_
 refine dv1 0 ?_
 refine dv1 1 ?_
 refine dv1 2 ?_
 refine dv1 3 ?_
 refine dv0 ?_
 refine dv1 5 ?_
 refine dv1 6 ?_
 refine dv1 7 ?_
 refine dv1 8 ?_
 refine dv1 9 ?_
 refine dv2 4 10 ?_
 refine dnd hL ?_
 clear hL;intro w1 hL;simp only[fillX,sTa,sTb]
 go_upto_region 2 with(first|(with_reducible first|refine lld hL ?_|((first|refine lbx hL ?_|refine lal hL ?_|refine lbs hL ?_);clear hL;intro bl w1 hL)|(refine lst' hL ?_;clear hL;intro w1 hL)))
 refine draw_begin [19,20,21,22,23,24,25,26,27,28,29,30,2] ?_
 refine dv0 ?_
 refine dv1 0 ?_
 refine dv1 1 ?_
 refine dv1 2 ?_
 refine dv1 3 ?_
 refine dv0 ?_
 refine dv1 5 ?_
 refine dv1 6 ?_
 refine dv1 7 ?_
 refine dv1 8 ?_
 refine dv2 4 9 ?_
 apply draw_val
 ·intro g w hb v;replace hL:=hL.grow hb;have d10:=yv v 10;clear v;simp only[fillD,fLa,fLb,sTa,sTb];simp only[d10]
  refine loc_loadB HI.out hL rfl rfl ?_
  exact cY
 simp only[apN,apC]
 apply draw_ptr
 ·intro g w hb v;replace hL:=hL.grow hb;clear v;simp only[fillD,fLa,fLb,sTa,sTb]
  go_wp2
  exact⟨rfl,_,rfl,(Below.refl _ _).alloc (Nat.le_refl _) _,_,hb.size,rfl,heap_new _ _⟩
 simp only[apN,apC]
 refine draw_end hL (by kernel_rfl) (by kernel_rfl) ?_
 intro g w2 hb hR;simp only[List.length_cons,List.length_nil,Nat.reduceAdd]at hR
 have e0:=yv hR 0
 have e1:=yv hR 1
 have e2:=yv hR 2
 have e3:=yv hR 3
 have e4:=yv hR 4
 have e5:=yv hR 5
 have e6:=yv hR 6
 have e7:=yv hR 7
 have e8:=yv hR 8
 have e9:=yv hR 9
 have e10:=yv hR 10
 have e11:=yv hR 11
 obtain⟨b12,p12,e12,c12⟩:=rat_ptr (allR_get hR (j:=12) (by decide)) rfl rfl
 clear hR;simp only[fillD,fLa,fLb,sTa,sTb]
 simp only[e0,e1,e2,e3,e4,e5,e6,e7,e8,e9,e10,e11,e12]
 clear e0 e1 e2 e3 e4 e5 e6 e7 e8 e9 e10 e11 e12
 replace hL:=hL.gain hb p12 c12
 clear p12 c12
 clear hb
 clear HI
 go_wp2_with (first|(with_reducible first|refine lld hL ?_|((first|refine lbx hL ?_|refine lal hL ?_|refine lbs hL ?_);clear hL;intro bl w1 hL)|(refine lst' hL ?_;clear hL;intro w1 hL))|(go_at_call 90;refine(count_any w0 bm ⟨pv,pf,some ⟨bc,oc,none⟩,pn,pcap⟩ ins s ⟨_,_,_,_,_,_⟩ t a b _ (HM.out _ (hL.drop (by repeat (first|exact List.Sublist.refl _|apply List.Sublist.cons)) (fun _ h=>h))) ⟨rfl,rfl,rfl⟩ HT.out HAL.out HBL.out (by simp) HAT.out HN.out.1 HN.out.2).mono ?_;rintro e w3 ⟨rfl,hM⟩;dsimp only))
 (try simp only[Exit.inBlock,Exit.then]);(first|refine end0 rfl rfl ?_|refine ret0 rfl rfl ?_)
 exact⟨rfl,hM⟩
theorem step_7 (w0:World) (bm:Nat) (p:Pg) (is:Nat→Ins) (ins:Sl) (s:Rs) (k:Nat) (t:Nat) (a:Nat) (b:Nat) (num goto:Int) (w:World) (h:Mach w0 bm p ins s w) (hk:s.at'=k) (hkn:k<p.n) (hk6:p.n≤60) (hc:CodeAt w0 p is) (hv:0<s.vars.length) (hi:is k=⟨7,(t:Int),(a:Int),(b:Int),num,goto⟩) (ht:t<s.vars.length) (ha:a<s.vars.length) (hb:b<s.vars.length) (hn:((s.val a).kind=1→Num32 (s.val a).n)∧((s.val b).kind=1→Num32 (s.val b).n)):
  Calls Tryz.prog 47 #[.pointer (some ⟨bm,0,none⟩)] w fun e w'=>e=.returned (.tuple #[])∧Mach w0 bm p ins (countS 7 t a b s) w':=by
 obtain⟨r,ts,Rv,Rt,Rl,Rf,hR,hL⟩:=h
 have hvn:=hR.vars.flatlen lenV (by decide)
 obtain⟨gv,cs,hpv,rfl,htk,hlen⟩:=hR.vars.block (by omega)
 simp only[List.cons_append,List.nil_append]at hL
 have HT:=Lib.hid ht
 have HAL:=Lib.hid ha
 have HBL:=Lib.hid hb
 have hat:0≤s.at'∧s.at'≤1000000:=by omega
 have HAT:=Lib.hid hat
 have hra:r.at'=(k:Int):=hR.a.trans hk
 have HR:=Lib.hid hR
 have HM:=Lib.hid (fun (w' : World) (hL:Loc w0 w' ((bm,100,machC p r ins)::(gv,77,cs)::(Rt++(Rl++Rf))) [])=>(⟨r,ts,[(gv,77,cs)],Rt,Rl,Rf,HR.out,hL⟩:Mach w0 bm p ins s w'))
 obtain⟨bc,oc,hpc,hcr⟩:=hc.reads
 have hpc2:=hpc (by omega)
 have hI:=hcr k hkn
 rw[hi]at hI
 have HI:=Lib.hid hI
 have HN:=Lib.hid hn
 clear hn
 clear hR hvn htk hlen hcr hpc hI hi hc hk hat ht ha hb
 obtain⟨pv,pf,pc,pn,pcap⟩:=p
 dsimp only at hpc2 hkn hk6
 subst hpc2
 obtain⟨ra,⟨vp,vn,vc⟩,rt,rk,rl,re⟩:=r
 dsimp only at hpv hra
 subst hpv
 subst hra
 have hne:((k:Int)==(pn:Int))=false:=by simp;omega
 go_enter Tryz.func47,Tryz.ntmps47
 go_upto_region 0 with(first|(with_reducible first|refine lld hL ?_|((first|refine lbx hL ?_|refine lal hL ?_|refine lbs hL ?_);clear hL;intro bl w1 hL)|(refine lst' hL ?_;clear hL;intro w1 hL)))
 refine draw_begin [5,6,7,8,9,10,11,12,13,14,15,16] ?_
 refine dv0 ?_
 refine dv1 0 ?_
 refine dv1 1 ?_
 refine dv1 2 ?_
 refine dv1 3 ?_
 refine dv0 ?_
 refine dv1 5 ?_
 refine dv1 6 ?_
 refine dv1 7 ?_
 refine dv1 8 ?_
 refine dv1 9 ?_
 refine dv2 4 10 ?_
 refine dnd hL ?_
 clear hL;intro w1 hL;simp only[fillX,sTa,sTb]
 go_upto_region 2 with(first|(with_reducible first|refine lld hL ?_|((first|refine lbx hL ?_|refine lal hL ?_|refine lbs hL ?_);clear hL;intro bl w1 hL)|(refine lst' hL ?_;clear hL;intro w1 hL)))
 refine draw_begin [19,20,21,22,23,24,25,26,27,28,29,30,2] ?_
 refine dv0 ?_
 refine dv1 0 ?_
 refine dv1 1 ?_
 refine dv1 2 ?_
 refine dv1 3 ?_
 refine dv0 ?_
 refine dv1 5 ?_
 refine dv1 6 ?_
 refine dv1 7 ?_
 refine dv1 8 ?_
 refine dv2 4 9 ?_
 apply draw_val
 ·intro g w hb v;replace hL:=hL.grow hb;have d10:=yv v 10;clear v;simp only[fillD,fLa,fLb,sTa,sTb];simp only[d10]
  refine loc_loadB HI.out hL rfl rfl ?_
  exact cY
 simp only[apN,apC]
 apply draw_ptr
 ·intro g w hb v;replace hL:=hL.grow hb;clear v;simp only[fillD,fLa,fLb,sTa,sTb]
  go_wp2
  exact⟨rfl,_,rfl,(Below.refl _ _).alloc (Nat.le_refl _) _,_,hb.size,rfl,heap_new _ _⟩
 simp only[apN,apC]
 refine draw_end hL (by kernel_rfl) (by kernel_rfl) ?_
 intro g w2 hb hR;simp only[List.length_cons,List.length_nil,Nat.reduceAdd]at hR
 have e0:=yv hR 0
 have e1:=yv hR 1
 have e2:=yv hR 2
 have e3:=yv hR 3
 have e4:=yv hR 4
 have e5:=yv hR 5
 have e6:=yv hR 6
 have e7:=yv hR 7
 have e8:=yv hR 8
 have e9:=yv hR 9
 have e10:=yv hR 10
 have e11:=yv hR 11
 obtain⟨b12,p12,e12,c12⟩:=rat_ptr (allR_get hR (j:=12) (by decide)) rfl rfl
 clear hR;simp only[fillD,fLa,fLb,sTa,sTb]
 simp only[e0,e1,e2,e3,e4,e5,e6,e7,e8,e9,e10,e11,e12]
 clear e0 e1 e2 e3 e4 e5 e6 e7 e8 e9 e10 e11 e12
 replace hL:=hL.gain hb p12 c12
 clear p12 c12
 clear hb
 clear HI
 go_wp2_with (first|(with_reducible first|refine lld hL ?_|((first|refine lbx hL ?_|refine lal hL ?_|refine lbs hL ?_);clear hL;intro bl w1 hL)|(refine lst' hL ?_;clear hL;intro w1 hL))|(go_at_call 90;refine(count_any w0 bm ⟨pv,pf,some ⟨bc,oc,none⟩,pn,pcap⟩ ins s ⟨_,_,_,_,_,_⟩ t a b _ (HM.out _ (hL.drop (by repeat (first|exact List.Sublist.refl _|apply List.Sublist.cons)) (fun _ h=>h))) ⟨rfl,rfl,rfl⟩ HT.out HAL.out HBL.out (by simp) HAT.out HN.out.1 HN.out.2).mono ?_;rintro e w3 ⟨rfl,hM⟩;dsimp only))
 (try simp only[Exit.inBlock,Exit.then]);(first|refine end0 rfl rfl ?_|refine ret0 rfl rfl ?_)
 exact⟨rfl,hM⟩
theorem step_8 (w0:World) (bm:Nat) (p:Pg) (is:Nat→Ins) (ins:Sl) (s:Rs) (k:Nat) (t:Nat) (a:Nat) (b:Nat) (num goto:Int) (w:World) (h:Mach w0 bm p ins s w) (hk:s.at'=k) (hkn:k<p.n) (hk6:p.n≤60) (hc:CodeAt w0 p is) (hv:0<s.vars.length) (hi:is k=⟨8,(t:Int),(a:Int),(b:Int),num,goto⟩) (ht:t<s.vars.length) (ha:a<s.vars.length) (hb:b<s.vars.length) (hn:((s.val a).kind=1→Num32 (s.val a).n)∧((s.val b).kind=1→Num32 (s.val b).n)):
  Calls Tryz.prog 47 #[.pointer (some ⟨bm,0,none⟩)] w fun e w'=>e=.returned (.tuple #[])∧Mach w0 bm p ins (countS 8 t a b s) w':=by
 obtain⟨r,ts,Rv,Rt,Rl,Rf,hR,hL⟩:=h
 have hvn:=hR.vars.flatlen lenV (by decide)
 obtain⟨gv,cs,hpv,rfl,htk,hlen⟩:=hR.vars.block (by omega)
 simp only[List.cons_append,List.nil_append]at hL
 have HT:=Lib.hid ht
 have HAL:=Lib.hid ha
 have HBL:=Lib.hid hb
 have hat:0≤s.at'∧s.at'≤1000000:=by omega
 have HAT:=Lib.hid hat
 have hra:r.at'=(k:Int):=hR.a.trans hk
 have HR:=Lib.hid hR
 have HM:=Lib.hid (fun (w' : World) (hL:Loc w0 w' ((bm,100,machC p r ins)::(gv,77,cs)::(Rt++(Rl++Rf))) [])=>(⟨r,ts,[(gv,77,cs)],Rt,Rl,Rf,HR.out,hL⟩:Mach w0 bm p ins s w'))
 obtain⟨bc,oc,hpc,hcr⟩:=hc.reads
 have hpc2:=hpc (by omega)
 have hI:=hcr k hkn
 rw[hi]at hI
 have HI:=Lib.hid hI
 have HN:=Lib.hid hn
 clear hn
 clear hR hvn htk hlen hcr hpc hI hi hc hk hat ht ha hb
 obtain⟨pv,pf,pc,pn,pcap⟩:=p
 dsimp only at hpc2 hkn hk6
 subst hpc2
 obtain⟨ra,⟨vp,vn,vc⟩,rt,rk,rl,re⟩:=r
 dsimp only at hpv hra
 subst hpv
 subst hra
 have hne:((k:Int)==(pn:Int))=false:=by simp;omega
 go_enter Tryz.func47,Tryz.ntmps47
 go_upto_region 0 with(first|(with_reducible first|refine lld hL ?_|((first|refine lbx hL ?_|refine lal hL ?_|refine lbs hL ?_);clear hL;intro bl w1 hL)|(refine lst' hL ?_;clear hL;intro w1 hL)))
 refine draw_begin [5,6,7,8,9,10,11,12,13,14,15,16] ?_
 refine dv0 ?_
 refine dv1 0 ?_
 refine dv1 1 ?_
 refine dv1 2 ?_
 refine dv1 3 ?_
 refine dv0 ?_
 refine dv1 5 ?_
 refine dv1 6 ?_
 refine dv1 7 ?_
 refine dv1 8 ?_
 refine dv1 9 ?_
 refine dv2 4 10 ?_
 refine dnd hL ?_
 clear hL;intro w1 hL;simp only[fillX,sTa,sTb]
 go_upto_region 2 with(first|(with_reducible first|refine lld hL ?_|((first|refine lbx hL ?_|refine lal hL ?_|refine lbs hL ?_);clear hL;intro bl w1 hL)|(refine lst' hL ?_;clear hL;intro w1 hL)))
 refine draw_begin [19,20,21,22,23,24,25,26,27,28,29,30,2] ?_
 refine dv0 ?_
 refine dv1 0 ?_
 refine dv1 1 ?_
 refine dv1 2 ?_
 refine dv1 3 ?_
 refine dv0 ?_
 refine dv1 5 ?_
 refine dv1 6 ?_
 refine dv1 7 ?_
 refine dv1 8 ?_
 refine dv2 4 9 ?_
 apply draw_val
 ·intro g w hb v;replace hL:=hL.grow hb;have d10:=yv v 10;clear v;simp only[fillD,fLa,fLb,sTa,sTb];simp only[d10]
  refine loc_loadB HI.out hL rfl rfl ?_
  exact cY
 simp only[apN,apC]
 apply draw_ptr
 ·intro g w hb v;replace hL:=hL.grow hb;clear v;simp only[fillD,fLa,fLb,sTa,sTb]
  go_wp2
  exact⟨rfl,_,rfl,(Below.refl _ _).alloc (Nat.le_refl _) _,_,hb.size,rfl,heap_new _ _⟩
 simp only[apN,apC]
 refine draw_end hL (by kernel_rfl) (by kernel_rfl) ?_
 intro g w2 hb hR;simp only[List.length_cons,List.length_nil,Nat.reduceAdd]at hR
 have e0:=yv hR 0
 have e1:=yv hR 1
 have e2:=yv hR 2
 have e3:=yv hR 3
 have e4:=yv hR 4
 have e5:=yv hR 5
 have e6:=yv hR 6
 have e7:=yv hR 7
 have e8:=yv hR 8
 have e9:=yv hR 9
 have e10:=yv hR 10
 have e11:=yv hR 11
 obtain⟨b12,p12,e12,c12⟩:=rat_ptr (allR_get hR (j:=12) (by decide)) rfl rfl
 clear hR;simp only[fillD,fLa,fLb,sTa,sTb]
 simp only[e0,e1,e2,e3,e4,e5,e6,e7,e8,e9,e10,e11,e12]
 clear e0 e1 e2 e3 e4 e5 e6 e7 e8 e9 e10 e11 e12
 replace hL:=hL.gain hb p12 c12
 clear p12 c12
 clear hb
 clear HI
 go_wp2_with (first|(with_reducible first|refine lld hL ?_|((first|refine lbx hL ?_|refine lal hL ?_|refine lbs hL ?_);clear hL;intro bl w1 hL)|(refine lst' hL ?_;clear hL;intro w1 hL))|(go_at_call 90;refine(count_any w0 bm ⟨pv,pf,some ⟨bc,oc,none⟩,pn,pcap⟩ ins s ⟨_,_,_,_,_,_⟩ t a b _ (HM.out _ (hL.drop (by repeat (first|exact List.Sublist.refl _|apply List.Sublist.cons)) (fun _ h=>h))) ⟨rfl,rfl,rfl⟩ HT.out HAL.out HBL.out (by simp) HAT.out HN.out.1 HN.out.2).mono ?_;rintro e w3 ⟨rfl,hM⟩;dsimp only))
 (try simp only[Exit.inBlock,Exit.then]);(first|refine end0 rfl rfl ?_|refine ret0 rfl rfl ?_)
 exact⟨rfl,hM⟩
theorem step_9 (w0:World) (bm:Nat) (p:Pg) (is:Nat→Ins) (ins:Sl) (s:Rs) (k:Nat) (t:Nat) (a:Nat) (b:Nat) (num goto:Int) (w:World) (h:Mach w0 bm p ins s w) (hk:s.at'=k) (hkn:k<p.n) (hk6:p.n≤60) (hc:CodeAt w0 p is) (hv:0<s.vars.length) (hi:is k=⟨9,(t:Int),(a:Int),(b:Int),num,goto⟩) (ht:t<s.vars.length) (ha:a<s.vars.length) (hb:b<s.vars.length)  :
  Calls Tryz.prog 47 #[.pointer (some ⟨bm,0,none⟩)] w fun e w'=>e=.returned (.tuple #[])∧Mach w0 bm p ins (s.set t (truthV (sameB (s.val a) (s.val b)))) w':=by
 obtain⟨r,ts,Rv,Rt,Rl,Rf,hR,hL⟩:=h
 have hvn:=hR.vars.flatlen lenV (by decide)
 obtain⟨gv,cs,hpv,rfl,htk,hlen⟩:=hR.vars.block (by omega)
 simp only[List.cons_append,List.nil_append]at hL
 obtain⟨va,hva⟩:∃ x,x=s.val a:=⟨_,rfl⟩
 have HA:=Lib.hid (show Reads Tryz.prog 77 cs (a*2) va.v by rw[hva];exact Reads.agg tValue (hR.vars.elem lenV dV (k:=a) (by omega)) rfl)
 have HAV:=Lib.hid hva
 have ha1:a<r.vars.n:=by omega
 obtain⟨vb,hvb⟩:∃ x,x=s.val b:=⟨_,rfl⟩
 have HB:=Lib.hid (show Reads Tryz.prog 77 cs (b*2) vb.v by rw[hvb];exact Reads.agg tValue (hR.vars.elem lenV dV (k:=b) (by omega)) rfl)
 have HBV:=Lib.hid hvb
 have hb1:b<r.vars.n:=by omega
 have HT:=Lib.hid ht
 have HAL:=Lib.hid ha
 have HBL:=Lib.hid hb
 have hat:0≤s.at'∧s.at'≤1000000:=by omega
 have HAT:=Lib.hid hat
 have hra:r.at'=(k:Int):=hR.a.trans hk
 have HR:=Lib.hid hR
 have HM:=Lib.hid (fun (w' : World) (hL:Loc w0 w' ((bm,100,machC p r ins)::(gv,77,cs)::(Rt++(Rl++Rf))) [])=>(⟨r,ts,[(gv,77,cs)],Rt,Rl,Rf,HR.out,hL⟩:Mach w0 bm p ins s w'))
 obtain⟨bc,oc,hpc,hcr⟩:=hc.reads
 have hpc2:=hpc (by omega)
 have hI:=hcr k hkn
 rw[hi]at hI
 have HI:=Lib.hid hI
 clear hR hvn htk hlen hcr hpc hI hi hc hk hat ht ha hb hva hvb
 obtain⟨pv,pf,pc,pn,pcap⟩:=p
 dsimp only at hpc2 hkn hk6
 subst hpc2
 obtain⟨ra,⟨vp,vn,vc⟩,rt,rk,rl,re⟩:=r
 dsimp only at hpv hra ha1 hb1
 subst hpv
 subst hra
 have hne:((k:Int)==(pn:Int))=false:=by simp;omega
 go_enter Tryz.func47,Tryz.ntmps47
 go_upto_region 0 with(first|(with_reducible first|refine lld hL ?_|((first|refine lbx hL ?_|refine lal hL ?_|refine lbs hL ?_);clear hL;intro bl w1 hL)|(refine lst' hL ?_;clear hL;intro w1 hL)))
 refine draw_begin [5,6,7,8,9,10,11,12,13,14,15,16] ?_
 refine dv0 ?_
 refine dv1 0 ?_
 refine dv1 1 ?_
 refine dv1 2 ?_
 refine dv1 3 ?_
 refine dv0 ?_
 refine dv1 5 ?_
 refine dv1 6 ?_
 refine dv1 7 ?_
 refine dv1 8 ?_
 refine dv1 9 ?_
 refine dv2 4 10 ?_
 refine dnd hL ?_
 clear hL;intro w1 hL;simp only[fillX,sTa,sTb]
 go_upto_region 2 with(first|(with_reducible first|refine lld hL ?_|((first|refine lbx hL ?_|refine lal hL ?_|refine lbs hL ?_);clear hL;intro bl w1 hL)|(refine lst' hL ?_;clear hL;intro w1 hL)))
 refine draw_begin [19,20,21,22,23,24,25,26,27,28,29,30,2] ?_
 refine dv0 ?_
 refine dv1 0 ?_
 refine dv1 1 ?_
 refine dv1 2 ?_
 refine dv1 3 ?_
 refine dv0 ?_
 refine dv1 5 ?_
 refine dv1 6 ?_
 refine dv1 7 ?_
 refine dv1 8 ?_
 refine dv2 4 9 ?_
 apply draw_val
 ·intro g w hb v;replace hL:=hL.grow hb;have d10:=yv v 10;clear v;simp only[fillD,fLa,fLb,sTa,sTb];simp only[d10]
  refine loc_loadB HI.out hL rfl rfl ?_
  exact cY
 simp only[apN,apC]
 apply draw_ptr
 ·intro g w hb v;replace hL:=hL.grow hb;clear v;simp only[fillD,fLa,fLb,sTa,sTb]
  go_wp2
  exact⟨rfl,_,rfl,(Below.refl _ _).alloc (Nat.le_refl _) _,_,hb.size,rfl,heap_new _ _⟩
 simp only[apN,apC]
 refine draw_end hL (by kernel_rfl) (by kernel_rfl) ?_
 intro g w2 hb hR;simp only[List.length_cons,List.length_nil,Nat.reduceAdd]at hR
 have e0:=yv hR 0
 have e1:=yv hR 1
 have e2:=yv hR 2
 have e3:=yv hR 3
 have e4:=yv hR 4
 have e5:=yv hR 5
 have e6:=yv hR 6
 have e7:=yv hR 7
 have e8:=yv hR 8
 have e9:=yv hR 9
 have e10:=yv hR 10
 have e11:=yv hR 11
 obtain⟨b12,p12,e12,c12⟩:=rat_ptr (allR_get hR (j:=12) (by decide)) rfl rfl
 clear hR;simp only[fillD,fLa,fLb,sTa,sTb]
 simp only[e0,e1,e2,e3,e4,e5,e6,e7,e8,e9,e10,e11,e12]
 clear e0 e1 e2 e3 e4 e5 e6 e7 e8 e9 e10 e11 e12
 replace hL:=hL.gain hb p12 c12
 clear p12 c12
 clear hb
 clear HI
 go_upto_region 19 with(first|(with_reducible first|refine lld hL ?_|((first|refine lbx hL ?_|refine lal hL ?_|refine lbs hL ?_);clear hL;intro bl w1 hL)|(refine lst' hL ?_;clear hL;intro w1 hL)))
 refine draw_begin [87,88,89,90,91,92,93,94,95,96,97,98,99,100,101,102,103,104,105,106,107,108,109] ?_
 refine dv0 ?_
 refine dv0 ?_
 refine dv1 1 ?_
 refine dv0 ?_
 refine dv1 3 ?_
 refine dv1 4 ?_
 refine dv1 5 ?_
 refine dv1 6 ?_
 refine dv0 ?_
 refine dv1 8 ?_
 refine dv2 7 9 ?_
 apply draw_val
 ·intro g w hb v;replace hL:=hL.grow hb;have d10:=yv v 10;clear v;simp only[fillD,fLa,fLb,sTa,sTb];simp only[d10]
  refine loc_load hL rfl rfl cIn HA.out ?_
  exact cY
 simp only[apN,apC]
 refine dv0 ?_
 refine dv1 12 ?_
 refine dv1 13 ?_
 refine dv1 14 ?_
 refine dv1 15 ?_
 refine dv0 ?_
 refine dv1 17 ?_
 refine dv2 16 18 ?_
 apply draw_val
 ·intro g w hb v;replace hL:=hL.grow hb;have d19:=yv v 19;clear v;simp only[fillD,fLa,fLb,sTa,sTb];simp only[d19]
  refine loc_load hL rfl rfl cIn HB.out ?_
  exact cY
 simp only[apN,apC]
 apply draw_val
 ·intro g w hb v;replace hL:=hL.grow hb;have d11:=yv v 11;have d20:=yv v 20;clear v;simp only[fillD,fLa,fLb,sTa,sTb];simp only[d11,d20]
  refine wp_eql_vl (a:=va) (b:=vb) rfl rfl ?_
  exact cY
 simp only[apN,apC]
 apply draw_val
 ·intro g w hb v;replace hL:=hL.grow hb;have d21:=yv v 21;clear v;simp only[fillD,fLa,fLb,sTa,sTb];simp only[d21]
  go_wp2_with (go_at_call 89;refine(truth_any _ _).mono ?_;rintro e w3 ⟨rfl,hb3⟩;dsimp only)
  exact⟨rfl,_,rfl,hb3,rfl⟩
 simp only[apN,apC]
 refine dnd hL ?_
 clear hL;intro w5 hL;simp only[fillX,sTa,sTb]
 go_wp2_with (first|(with_reducible first|refine lld hL ?_|((first|refine lbx hL ?_|refine lal hL ?_|refine lbs hL ?_);clear hL;intro bl w1 hL)|(refine lst' hL ?_;clear hL;intro w1 hL))|(go_at_call 88;refine(set_any w0 bm ⟨pv,pf,some ⟨bc,oc,none⟩,pn,pcap⟩ ins s t (truthV (sameB va vb)) _ (HM.out _ (hL.drop (by repeat (first|exact List.Sublist.refl _|apply List.Sublist.cons)) (fun _ h=>h))) HT.out HAT.out).mono ?_;rintro e w3 ⟨rfl,hM⟩;dsimp only))
 (try simp only[Exit.inBlock,Exit.then]);(first|refine end0 rfl rfl ?_|refine ret0 rfl rfl ?_)
 exact⟨rfl,by rw[← HAV.out,← HBV.out];exact hM⟩
theorem step_10 (w0:World) (bm:Nat) (p:Pg) (is:Nat→Ins) (ins:Sl) (s:Rs) (k:Nat) (t:Nat) (a:Nat) (ib:Int) (num goto:Int) (w:World) (h:Mach w0 bm p ins s w) (hk:s.at'=k) (hkn:k<p.n) (hk6:p.n≤60) (hc:CodeAt w0 p is) (hv:0<s.vars.length) (hi:is k=⟨10,(t:Int),(a:Int),ib,num,goto⟩) (ht:t<s.vars.length) (ha:a<s.vars.length)  :
  Calls Tryz.prog 47 #[.pointer (some ⟨bm,0,none⟩)] w fun e w'=>e=.returned (.tuple #[])∧Mach w0 bm p ins (s.set t (truthV (!countsV (s.val a)))) w':=by
 obtain⟨r,ts,Rv,Rt,Rl,Rf,hR,hL⟩:=h
 have hvn:=hR.vars.flatlen lenV (by decide)
 obtain⟨gv,cs,hpv,rfl,htk,hlen⟩:=hR.vars.block (by omega)
 simp only[List.cons_append,List.nil_append]at hL
 obtain⟨va,hva⟩:∃ x,x=s.val a:=⟨_,rfl⟩
 have HA:=Lib.hid (show Reads Tryz.prog 77 cs (a*2) va.v by rw[hva];exact Reads.agg tValue (hR.vars.elem lenV dV (k:=a) (by omega)) rfl)
 have HAV:=Lib.hid hva
 have ha1:a<r.vars.n:=by omega
 have HT:=Lib.hid ht
 have HAL:=Lib.hid ha
 have hat:0≤s.at'∧s.at'≤1000000:=by omega
 have HAT:=Lib.hid hat
 have hra:r.at'=(k:Int):=hR.a.trans hk
 have HR:=Lib.hid hR
 have HM:=Lib.hid (fun (w' : World) (hL:Loc w0 w' ((bm,100,machC p r ins)::(gv,77,cs)::(Rt++(Rl++Rf))) [])=>(⟨r,ts,[(gv,77,cs)],Rt,Rl,Rf,HR.out,hL⟩:Mach w0 bm p ins s w'))
 obtain⟨bc,oc,hpc,hcr⟩:=hc.reads
 have hpc2:=hpc (by omega)
 have hI:=hcr k hkn
 rw[hi]at hI
 have HI:=Lib.hid hI
 clear hR hvn htk hlen hcr hpc hI hi hc hk hat ht ha hva
 obtain⟨pv,pf,pc,pn,pcap⟩:=p
 dsimp only at hpc2 hkn hk6
 subst hpc2
 obtain⟨ra,⟨vp,vn,vc⟩,rt,rk,rl,re⟩:=r
 dsimp only at hpv hra ha1
 subst hpv
 subst hra
 have hne:((k:Int)==(pn:Int))=false:=by simp;omega
 go_enter Tryz.func47,Tryz.ntmps47
 go_upto_region 0 with(first|(with_reducible first|refine lld hL ?_|((first|refine lbx hL ?_|refine lal hL ?_|refine lbs hL ?_);clear hL;intro bl w1 hL)|(refine lst' hL ?_;clear hL;intro w1 hL)))
 refine draw_begin [5,6,7,8,9,10,11,12,13,14,15,16] ?_
 refine dv0 ?_
 refine dv1 0 ?_
 refine dv1 1 ?_
 refine dv1 2 ?_
 refine dv1 3 ?_
 refine dv0 ?_
 refine dv1 5 ?_
 refine dv1 6 ?_
 refine dv1 7 ?_
 refine dv1 8 ?_
 refine dv1 9 ?_
 refine dv2 4 10 ?_
 refine dnd hL ?_
 clear hL;intro w1 hL;simp only[fillX,sTa,sTb]
 go_upto_region 2 with(first|(with_reducible first|refine lld hL ?_|((first|refine lbx hL ?_|refine lal hL ?_|refine lbs hL ?_);clear hL;intro bl w1 hL)|(refine lst' hL ?_;clear hL;intro w1 hL)))
 refine draw_begin [19,20,21,22,23,24,25,26,27,28,29,30,2] ?_
 refine dv0 ?_
 refine dv1 0 ?_
 refine dv1 1 ?_
 refine dv1 2 ?_
 refine dv1 3 ?_
 refine dv0 ?_
 refine dv1 5 ?_
 refine dv1 6 ?_
 refine dv1 7 ?_
 refine dv1 8 ?_
 refine dv2 4 9 ?_
 apply draw_val
 ·intro g w hb v;replace hL:=hL.grow hb;have d10:=yv v 10;clear v;simp only[fillD,fLa,fLb,sTa,sTb];simp only[d10]
  refine loc_loadB HI.out hL rfl rfl ?_
  exact cY
 simp only[apN,apC]
 apply draw_ptr
 ·intro g w hb v;replace hL:=hL.grow hb;clear v;simp only[fillD,fLa,fLb,sTa,sTb]
  go_wp2
  exact⟨rfl,_,rfl,(Below.refl _ _).alloc (Nat.le_refl _) _,_,hb.size,rfl,heap_new _ _⟩
 simp only[apN,apC]
 refine draw_end hL (by kernel_rfl) (by kernel_rfl) ?_
 intro g w2 hb hR;simp only[List.length_cons,List.length_nil,Nat.reduceAdd]at hR
 have e0:=yv hR 0
 have e1:=yv hR 1
 have e2:=yv hR 2
 have e3:=yv hR 3
 have e4:=yv hR 4
 have e5:=yv hR 5
 have e6:=yv hR 6
 have e7:=yv hR 7
 have e8:=yv hR 8
 have e9:=yv hR 9
 have e10:=yv hR 10
 have e11:=yv hR 11
 obtain⟨b12,p12,e12,c12⟩:=rat_ptr (allR_get hR (j:=12) (by decide)) rfl rfl
 clear hR;simp only[fillD,fLa,fLb,sTa,sTb]
 simp only[e0,e1,e2,e3,e4,e5,e6,e7,e8,e9,e10,e11,e12]
 clear e0 e1 e2 e3 e4 e5 e6 e7 e8 e9 e10 e11 e12
 replace hL:=hL.gain hb p12 c12
 clear p12 c12
 clear hb
 clear HI
 go_upto_region 21 with(first|(with_reducible first|refine lld hL ?_|((first|refine lbx hL ?_|refine lal hL ?_|refine lbs hL ?_);clear hL;intro bl w1 hL)|(refine lst' hL ?_;clear hL;intro w1 hL)))
 refine draw_begin [113,114,115,116,117,118,119,120,121,122,123,124,125,126,127] ?_
 refine dv0 ?_
 refine dv0 ?_
 refine dv1 1 ?_
 refine dv0 ?_
 refine dv1 3 ?_
 refine dv1 4 ?_
 refine dv1 5 ?_
 refine dv1 6 ?_
 refine dv0 ?_
 refine dv1 8 ?_
 refine dv2 7 9 ?_
 apply draw_val
 ·intro g w hb v;replace hL:=hL.grow hb;have d10:=yv v 10;clear v;simp only[fillD,fLa,fLb,sTa,sTb];simp only[d10]
  refine loc_load hL rfl rfl cIn HA.out ?_
  exact cY
 simp only[apN,apC]
 apply draw_val
 ·intro g w hb v;replace hL:=hL.grow hb;have d11:=yv v 11;clear v;simp only[fillD,fLa,fLb,sTa,sTb];simp only[d11]
  go_wp2_with (go_at_call 91;refine(counts_any va _).mono ?_;rintro e w3 ⟨rfl,hb3⟩;dsimp only)
  exact⟨rfl,_,rfl,hb3,rfl⟩
 simp only[apN,apC]
 refine dv1 12 ?_
 apply draw_val
 ·intro g w hb v;replace hL:=hL.grow hb;have d13:=yv v 13;clear v;simp only[fillD,fLa,fLb,sTa,sTb];simp only[d13]
  go_wp2_with (go_at_call 89;refine(truth_any _ _).mono ?_;rintro e w3 ⟨rfl,hb3⟩;dsimp only)
  exact⟨rfl,_,rfl,hb3,rfl⟩
 simp only[apN,apC]
 refine dnd hL ?_
 clear hL;intro w5 hL;simp only[fillX,sTa,sTb]
 go_wp2_with (first|(with_reducible first|refine lld hL ?_|((first|refine lbx hL ?_|refine lal hL ?_|refine lbs hL ?_);clear hL;intro bl w1 hL)|(refine lst' hL ?_;clear hL;intro w1 hL))|(go_at_call 88;refine(set_any w0 bm ⟨pv,pf,some ⟨bc,oc,none⟩,pn,pcap⟩ ins s t (truthV (!countsV va)) _ (HM.out _ (hL.drop (by repeat (first|exact List.Sublist.refl _|apply List.Sublist.cons)) (fun _ h=>h))) HT.out HAT.out).mono ?_;rintro e w3 ⟨rfl,hM⟩;dsimp only))
 (try simp only[Exit.inBlock,Exit.then]);(first|refine end0 rfl rfl ?_|refine ret0 rfl rfl ?_)
 exact⟨rfl,by rw[← HAV.out];exact hM⟩
theorem step_11 (w0:World) (bm:Nat) (p:Pg) (is:Nat→Ins) (ins:Sl) (s:Rs) (k:Nat) (t:Nat) (ia:Int) (ib:Int) (num goto:Int) (m:Nat) (w:World) (h:Mach w0 bm p ins s w) (hk:s.at'=k) (hkn:k<p.n) (hk6:p.n≤60) (hc:CodeAt w0 p is) (hv:0<s.vars.length) (hi:is k=⟨11,(t:Int),ia,ib,num,goto⟩) (ht:t<s.vars.length) (hn:(p.fields=m∧m≤3)∧s.things.length≤100):
  Calls Tryz.prog 47 #[.pointer (some ⟨bm,0,none⟩)] w fun e w'=>e=.returned (.tuple #[])∧Mach w0 bm p ins (createS t m s) w':=by
 obtain⟨r,ts,Rv,Rt,Rl,Rf,hR,hL⟩:=h
 have hvn:=hR.vars.flatlen lenV (by decide)
 obtain⟨gv,cs,hpv,rfl,htk,hlen⟩:=hR.vars.block (by omega)
 simp only[List.cons_append,List.nil_append]at hL
 have HT:=Lib.hid ht
 have hat:0≤s.at'∧s.at'≤1000000:=by omega
 have HAT:=Lib.hid hat
 have hra:r.at'=(k:Int):=hR.a.trans hk
 have HR:=Lib.hid hR
 have HM:=Lib.hid (fun (w' : World) (hL:Loc w0 w' ((bm,100,machC p r ins)::(gv,77,cs)::(Rt++(Rl++Rf))) [])=>(⟨r,ts,[(gv,77,cs)],Rt,Rl,Rf,HR.out,hL⟩:Mach w0 bm p ins s w'))
 obtain⟨bc,oc,hpc,hcr⟩:=hc.reads
 have hpc2:=hpc (by omega)
 have hI:=hcr k hkn
 rw[hi]at hI
 have HI:=Lib.hid hI
 have HN:=Lib.hid hn
 clear hn
 clear hR hvn htk hlen hcr hpc hI hi hc hk hat ht
 obtain⟨pv,pf,pc,pn,pcap⟩:=p
 dsimp only at hpc2 hkn hk6
 subst hpc2
 obtain⟨ra,⟨vp,vn,vc⟩,rt,rk,rl,re⟩:=r
 dsimp only at hpv hra
 subst hpv
 subst hra
 have hne:((k:Int)==(pn:Int))=false:=by simp;omega
 go_enter Tryz.func47,Tryz.ntmps47
 go_upto_region 0 with(first|(with_reducible first|refine lld hL ?_|((first|refine lbx hL ?_|refine lal hL ?_|refine lbs hL ?_);clear hL;intro bl w1 hL)|(refine lst' hL ?_;clear hL;intro w1 hL)))
 refine draw_begin [5,6,7,8,9,10,11,12,13,14,15,16] ?_
 refine dv0 ?_
 refine dv1 0 ?_
 refine dv1 1 ?_
 refine dv1 2 ?_
 refine dv1 3 ?_
 refine dv0 ?_
 refine dv1 5 ?_
 refine dv1 6 ?_
 refine dv1 7 ?_
 refine dv1 8 ?_
 refine dv1 9 ?_
 refine dv2 4 10 ?_
 refine dnd hL ?_
 clear hL;intro w1 hL;simp only[fillX,sTa,sTb]
 go_upto_region 2 with(first|(with_reducible first|refine lld hL ?_|((first|refine lbx hL ?_|refine lal hL ?_|refine lbs hL ?_);clear hL;intro bl w1 hL)|(refine lst' hL ?_;clear hL;intro w1 hL)))
 refine draw_begin [19,20,21,22,23,24,25,26,27,28,29,30,2] ?_
 refine dv0 ?_
 refine dv1 0 ?_
 refine dv1 1 ?_
 refine dv1 2 ?_
 refine dv1 3 ?_
 refine dv0 ?_
 refine dv1 5 ?_
 refine dv1 6 ?_
 refine dv1 7 ?_
 refine dv1 8 ?_
 refine dv2 4 9 ?_
 apply draw_val
 ·intro g w hb v;replace hL:=hL.grow hb;have d10:=yv v 10;clear v;simp only[fillD,fLa,fLb,sTa,sTb];simp only[d10]
  refine loc_loadB HI.out hL rfl rfl ?_
  exact cY
 simp only[apN,apC]
 apply draw_ptr
 ·intro g w hb v;replace hL:=hL.grow hb;clear v;simp only[fillD,fLa,fLb,sTa,sTb]
  go_wp2
  exact⟨rfl,_,rfl,(Below.refl _ _).alloc (Nat.le_refl _) _,_,hb.size,rfl,heap_new _ _⟩
 simp only[apN,apC]
 refine draw_end hL (by kernel_rfl) (by kernel_rfl) ?_
 intro g w2 hb hR;simp only[List.length_cons,List.length_nil,Nat.reduceAdd]at hR
 have e0:=yv hR 0
 have e1:=yv hR 1
 have e2:=yv hR 2
 have e3:=yv hR 3
 have e4:=yv hR 4
 have e5:=yv hR 5
 have e6:=yv hR 6
 have e7:=yv hR 7
 have e8:=yv hR 8
 have e9:=yv hR 9
 have e10:=yv hR 10
 have e11:=yv hR 11
 obtain⟨b12,p12,e12,c12⟩:=rat_ptr (allR_get hR (j:=12) (by decide)) rfl rfl
 clear hR;simp only[fillD,fLa,fLb,sTa,sTb]
 simp only[e0,e1,e2,e3,e4,e5,e6,e7,e8,e9,e10,e11,e12]
 clear e0 e1 e2 e3 e4 e5 e6 e7 e8 e9 e10 e11 e12
 replace hL:=hL.gain hb p12 c12
 clear p12 c12
 clear hb
 clear HI
 go_wp2_with (first|(with_reducible first|refine lld hL ?_|((first|refine lbx hL ?_|refine lal hL ?_|refine lbs hL ?_);clear hL;intro bl w1 hL)|(refine lst' hL ?_;clear hL;intro w1 hL))|(go_at_call 92;refine(mcreate_any w0 bm ⟨pv,pf,some ⟨bc,oc,none⟩,pn,pcap⟩ ins s ⟨_,_,_,_,_,_⟩ t m _ (HM.out _ (hL.drop (by repeat (first|exact List.Sublist.refl _|apply List.Sublist.cons)) (fun _ h=>h))) rfl HT.out HN.out.1 HN.out.2 HAT.out).mono ?_;rintro e w3 ⟨rfl,hM⟩;dsimp only))
 (try simp only[Exit.inBlock,Exit.then]);(first|refine end0 rfl rfl ?_|refine ret0 rfl rfl ?_)
 exact⟨rfl,hM⟩
theorem step_14 (w0:World) (bm:Nat) (p:Pg) (is:Nat→Ins) (ins:Sl) (s:Rs) (k:Nat) (t:Nat) (ia:Int) (ib:Int) (num goto:Int) (xs:Nat→Int) (w:World) (h:Mach w0 bm p ins s w) (hk:s.at'=k) (hkn:k<p.n) (hk6:p.n≤60) (hc:CodeAt w0 p is) (hv:0<s.vars.length) (hi:is k=⟨14,(t:Int),ia,ib,num,goto⟩) (ht:t<s.vars.length) (hn:InputsAt w0 ins xs∧(0≤num∧num≤1000000)∧(0≤s.taken∧s.taken≤9223372036854775807)):
  Calls Tryz.prog 47 #[.pointer (some ⟨bm,0,none⟩)] w fun e w'=>e=.returned (.tuple #[])∧Mach w0 bm p ins (takeS ⟨14,t,ia,ib,num,goto⟩ t ins xs s) w':=by
 obtain⟨r,ts,Rv,Rt,Rl,Rf,hR,hL⟩:=h
 have hvn:=hR.vars.flatlen lenV (by decide)
 obtain⟨gv,cs,hpv,rfl,htk,hlen⟩:=hR.vars.block (by omega)
 simp only[List.cons_append,List.nil_append]at hL
 have HT:=Lib.hid ht
 have hat:0≤s.at'∧s.at'≤1000000:=by omega
 have HAT:=Lib.hid hat
 have hra:r.at'=(k:Int):=hR.a.trans hk
 have HR:=Lib.hid hR
 have HM:=Lib.hid (fun (w' : World) (hL:Loc w0 w' ((bm,100,machC p r ins)::(gv,77,cs)::(Rt++(Rl++Rf))) [])=>(⟨r,ts,[(gv,77,cs)],Rt,Rl,Rf,HR.out,hL⟩:Mach w0 bm p ins s w'))
 obtain⟨bc,oc,hpc,hcr⟩:=hc.reads
 have hpc2:=hpc (by omega)
 have hI:=hcr k hkn
 rw[hi]at hI
 have HI:=Lib.hid hI
 have HN:=Lib.hid hn
 clear hn
 clear hR hvn htk hlen hcr hpc hI hi hc hk hat ht
 obtain⟨pv,pf,pc,pn,pcap⟩:=p
 dsimp only at hpc2 hkn hk6
 subst hpc2
 obtain⟨ra,⟨vp,vn,vc⟩,rt,rk,rl,re⟩:=r
 dsimp only at hpv hra
 subst hpv
 subst hra
 have hne:((k:Int)==(pn:Int))=false:=by simp;omega
 go_enter Tryz.func47,Tryz.ntmps47
 go_upto_region 0 with(first|(with_reducible first|refine lld hL ?_|((first|refine lbx hL ?_|refine lal hL ?_|refine lbs hL ?_);clear hL;intro bl w1 hL)|(refine lst' hL ?_;clear hL;intro w1 hL)))
 refine draw_begin [5,6,7,8,9,10,11,12,13,14,15,16] ?_
 refine dv0 ?_
 refine dv1 0 ?_
 refine dv1 1 ?_
 refine dv1 2 ?_
 refine dv1 3 ?_
 refine dv0 ?_
 refine dv1 5 ?_
 refine dv1 6 ?_
 refine dv1 7 ?_
 refine dv1 8 ?_
 refine dv1 9 ?_
 refine dv2 4 10 ?_
 refine dnd hL ?_
 clear hL;intro w1 hL;simp only[fillX,sTa,sTb]
 go_upto_region 2 with(first|(with_reducible first|refine lld hL ?_|((first|refine lbx hL ?_|refine lal hL ?_|refine lbs hL ?_);clear hL;intro bl w1 hL)|(refine lst' hL ?_;clear hL;intro w1 hL)))
 refine draw_begin [19,20,21,22,23,24,25,26,27,28,29,30,2] ?_
 refine dv0 ?_
 refine dv1 0 ?_
 refine dv1 1 ?_
 refine dv1 2 ?_
 refine dv1 3 ?_
 refine dv0 ?_
 refine dv1 5 ?_
 refine dv1 6 ?_
 refine dv1 7 ?_
 refine dv1 8 ?_
 refine dv2 4 9 ?_
 apply draw_val
 ·intro g w hb v;replace hL:=hL.grow hb;have d10:=yv v 10;clear v;simp only[fillD,fLa,fLb,sTa,sTb];simp only[d10]
  refine loc_loadB HI.out hL rfl rfl ?_
  exact cY
 simp only[apN,apC]
 apply draw_ptr
 ·intro g w hb v;replace hL:=hL.grow hb;clear v;simp only[fillD,fLa,fLb,sTa,sTb]
  go_wp2
  exact⟨rfl,_,rfl,(Below.refl _ _).alloc (Nat.le_refl _) _,_,hb.size,rfl,heap_new _ _⟩
 simp only[apN,apC]
 refine draw_end hL (by kernel_rfl) (by kernel_rfl) ?_
 intro g w2 hb hR;simp only[List.length_cons,List.length_nil,Nat.reduceAdd]at hR
 have e0:=yv hR 0
 have e1:=yv hR 1
 have e2:=yv hR 2
 have e3:=yv hR 3
 have e4:=yv hR 4
 have e5:=yv hR 5
 have e6:=yv hR 6
 have e7:=yv hR 7
 have e8:=yv hR 8
 have e9:=yv hR 9
 have e10:=yv hR 10
 have e11:=yv hR 11
 obtain⟨b12,p12,e12,c12⟩:=rat_ptr (allR_get hR (j:=12) (by decide)) rfl rfl
 clear hR;simp only[fillD,fLa,fLb,sTa,sTb]
 simp only[e0,e1,e2,e3,e4,e5,e6,e7,e8,e9,e10,e11,e12]
 clear e0 e1 e2 e3 e4 e5 e6 e7 e8 e9 e10 e11 e12
 replace hL:=hL.gain hb p12 c12
 clear p12 c12
 clear hb
 clear HI
 go_wp2_with (first|(with_reducible first|refine lld hL ?_|((first|refine lbx hL ?_|refine lal hL ?_|refine lbs hL ?_);clear hL;intro bl w1 hL)|(refine lst' hL ?_;clear hL;intro w1 hL))|(go_at_call 94;refine(take_any w0 bm ⟨pv,pf,some ⟨bc,oc,none⟩,pn,pcap⟩ ins xs s ⟨_,_,_,_,_,_⟩ t _ (HM.out _ (hL.drop (by repeat (first|exact List.Sublist.refl _|apply List.Sublist.cons)) (fun _ h=>h))) HN.out.1 rfl HT.out HN.out.2.1 HN.out.2.2 HAT.out).mono ?_;rintro e w3 ⟨rfl,hM⟩;dsimp only))
 (try simp only[Exit.inBlock,Exit.then]);(first|refine end0 rfl rfl ?_|refine ret0 rfl rfl ?_)
 exact⟨rfl,hM⟩
theorem step_15 (w0:World) (bm:Nat) (p:Pg) (is:Nat→Ins) (ins:Sl) (s:Rs) (k:Nat) (a:Nat) (to:Int) (ib:Int) (num goto:Int) (w:World) (h:Mach w0 bm p ins s w) (hk:s.at'=k) (hkn:k<p.n) (hk6:p.n≤60) (hc:CodeAt w0 p is) (hv:0<s.vars.length) (hi:is k=⟨15,to,(a:Int),ib,num,goto⟩) (ha:a<s.vars.length) (hn:(-9223372036854775808≤(s.val a).n∧(s.val a).n≤9223372036854775807)∧s.lines.length*16+16≤140737488355328∧Pows w0):
  Calls Tryz.prog 47 #[.pointer (some ⟨bm,0,none⟩)] w fun e w'=>e=.returned (.tuple #[])∧Mach w0 bm p ins (onwardS 15 goto a s) w':=by
 obtain⟨r,ts,Rv,Rt,Rl,Rf,hR,hL⟩:=h
 have hvn:=hR.vars.flatlen lenV (by decide)
 obtain⟨gv,cs,hpv,rfl,htk,hlen⟩:=hR.vars.block (by omega)
 simp only[List.cons_append,List.nil_append]at hL
 have HAL:=Lib.hid ha
 have hat:0≤s.at'∧s.at'≤1000000:=by omega
 have HAT:=Lib.hid hat
 have hra:r.at'=(k:Int):=hR.a.trans hk
 have HR:=Lib.hid hR
 have HM:=Lib.hid (fun (w' : World) (hL:Loc w0 w' ((bm,100,machC p r ins)::(gv,77,cs)::(Rt++(Rl++Rf))) [])=>(⟨r,ts,[(gv,77,cs)],Rt,Rl,Rf,HR.out,hL⟩:Mach w0 bm p ins s w'))
 obtain⟨bc,oc,hpc,hcr⟩:=hc.reads
 have hpc2:=hpc (by omega)
 have hI:=hcr k hkn
 rw[hi]at hI
 have HI:=Lib.hid hI
 have HN:=Lib.hid hn
 clear hn
 clear hR hvn htk hlen hcr hpc hI hi hc hk hat ha
 obtain⟨pv,pf,pc,pn,pcap⟩:=p
 dsimp only at hpc2 hkn hk6
 subst hpc2
 obtain⟨ra,⟨vp,vn,vc⟩,rt,rk,rl,re⟩:=r
 dsimp only at hpv hra
 subst hpv
 subst hra
 have hne:((k:Int)==(pn:Int))=false:=by simp;omega
 go_enter Tryz.func47,Tryz.ntmps47
 go_upto_region 0 with(first|(with_reducible first|refine lld hL ?_|((first|refine lbx hL ?_|refine lal hL ?_|refine lbs hL ?_);clear hL;intro bl w1 hL)|(refine lst' hL ?_;clear hL;intro w1 hL)))
 refine draw_begin [5,6,7,8,9,10,11,12,13,14,15,16] ?_
 refine dv0 ?_
 refine dv1 0 ?_
 refine dv1 1 ?_
 refine dv1 2 ?_
 refine dv1 3 ?_
 refine dv0 ?_
 refine dv1 5 ?_
 refine dv1 6 ?_
 refine dv1 7 ?_
 refine dv1 8 ?_
 refine dv1 9 ?_
 refine dv2 4 10 ?_
 refine dnd hL ?_
 clear hL;intro w1 hL;simp only[fillX,sTa,sTb]
 go_upto_region 2 with(first|(with_reducible first|refine lld hL ?_|((first|refine lbx hL ?_|refine lal hL ?_|refine lbs hL ?_);clear hL;intro bl w1 hL)|(refine lst' hL ?_;clear hL;intro w1 hL)))
 refine draw_begin [19,20,21,22,23,24,25,26,27,28,29,30,2] ?_
 refine dv0 ?_
 refine dv1 0 ?_
 refine dv1 1 ?_
 refine dv1 2 ?_
 refine dv1 3 ?_
 refine dv0 ?_
 refine dv1 5 ?_
 refine dv1 6 ?_
 refine dv1 7 ?_
 refine dv1 8 ?_
 refine dv2 4 9 ?_
 apply draw_val
 ·intro g w hb v;replace hL:=hL.grow hb;have d10:=yv v 10;clear v;simp only[fillD,fLa,fLb,sTa,sTb];simp only[d10]
  refine loc_loadB HI.out hL rfl rfl ?_
  exact cY
 simp only[apN,apC]
 apply draw_ptr
 ·intro g w hb v;replace hL:=hL.grow hb;clear v;simp only[fillD,fLa,fLb,sTa,sTb]
  go_wp2
  exact⟨rfl,_,rfl,(Below.refl _ _).alloc (Nat.le_refl _) _,_,hb.size,rfl,heap_new _ _⟩
 simp only[apN,apC]
 refine draw_end hL (by kernel_rfl) (by kernel_rfl) ?_
 intro g w2 hb hR;simp only[List.length_cons,List.length_nil,Nat.reduceAdd]at hR
 have e0:=yv hR 0
 have e1:=yv hR 1
 have e2:=yv hR 2
 have e3:=yv hR 3
 have e4:=yv hR 4
 have e5:=yv hR 5
 have e6:=yv hR 6
 have e7:=yv hR 7
 have e8:=yv hR 8
 have e9:=yv hR 9
 have e10:=yv hR 10
 have e11:=yv hR 11
 obtain⟨b12,p12,e12,c12⟩:=rat_ptr (allR_get hR (j:=12) (by decide)) rfl rfl
 clear hR;simp only[fillD,fLa,fLb,sTa,sTb]
 simp only[e0,e1,e2,e3,e4,e5,e6,e7,e8,e9,e10,e11,e12]
 clear e0 e1 e2 e3 e4 e5 e6 e7 e8 e9 e10 e11 e12
 replace hL:=hL.gain hb p12 c12
 clear p12 c12
 clear hb
 clear HI
 go_wp2_with (first|(with_reducible first|refine lld hL ?_|((first|refine lbx hL ?_|refine lal hL ?_|refine lbs hL ?_);clear hL;intro bl w1 hL)|(refine lst' hL ?_;clear hL;intro w1 hL))|(go_at_call 95;refine(onward_any w0 bm ⟨pv,pf,some ⟨bc,oc,none⟩,pn,pcap⟩ ins s ⟨_,_,_,_,_,_⟩ a _ (HM.out _ (hL.drop (by repeat (first|exact List.Sublist.refl _|apply List.Sublist.cons)) (fun _ h=>h))) (by simp) rfl HAL.out HAT.out HN.out.1 HN.out.2.1 HN.out.2.2).mono ?_;rintro e w3 ⟨rfl,hM⟩;dsimp only))
 (try simp only[Exit.inBlock,Exit.then]);(first|refine end0 rfl rfl ?_|refine ret0 rfl rfl ?_)
 exact⟨rfl,hM⟩
theorem step_17 (w0:World) (bm:Nat) (p:Pg) (is:Nat→Ins) (ins:Sl) (s:Rs) (k:Nat) (a:Nat) (to:Int) (ib:Int) (num goto:Int) (w:World) (h:Mach w0 bm p ins s w) (hk:s.at'=k) (hkn:k<p.n) (hk6:p.n≤60) (hc:CodeAt w0 p is) (hv:0<s.vars.length) (hi:is k=⟨17,to,(a:Int),ib,num,goto⟩) (ha:a<s.vars.length) (hn:(-9223372036854775808≤(s.val a).n∧(s.val a).n≤9223372036854775807)∧s.lines.length*16+16≤140737488355328∧Pows w0):
  Calls Tryz.prog 47 #[.pointer (some ⟨bm,0,none⟩)] w fun e w'=>e=.returned (.tuple #[])∧Mach w0 bm p ins (onwardS 17 goto a s) w':=by
 obtain⟨r,ts,Rv,Rt,Rl,Rf,hR,hL⟩:=h
 have hvn:=hR.vars.flatlen lenV (by decide)
 obtain⟨gv,cs,hpv,rfl,htk,hlen⟩:=hR.vars.block (by omega)
 simp only[List.cons_append,List.nil_append]at hL
 have HAL:=Lib.hid ha
 have hat:0≤s.at'∧s.at'≤1000000:=by omega
 have HAT:=Lib.hid hat
 have hra:r.at'=(k:Int):=hR.a.trans hk
 have HR:=Lib.hid hR
 have HM:=Lib.hid (fun (w' : World) (hL:Loc w0 w' ((bm,100,machC p r ins)::(gv,77,cs)::(Rt++(Rl++Rf))) [])=>(⟨r,ts,[(gv,77,cs)],Rt,Rl,Rf,HR.out,hL⟩:Mach w0 bm p ins s w'))
 obtain⟨bc,oc,hpc,hcr⟩:=hc.reads
 have hpc2:=hpc (by omega)
 have hI:=hcr k hkn
 rw[hi]at hI
 have HI:=Lib.hid hI
 have HN:=Lib.hid hn
 clear hn
 clear hR hvn htk hlen hcr hpc hI hi hc hk hat ha
 obtain⟨pv,pf,pc,pn,pcap⟩:=p
 dsimp only at hpc2 hkn hk6
 subst hpc2
 obtain⟨ra,⟨vp,vn,vc⟩,rt,rk,rl,re⟩:=r
 dsimp only at hpv hra
 subst hpv
 subst hra
 have hne:((k:Int)==(pn:Int))=false:=by simp;omega
 go_enter Tryz.func47,Tryz.ntmps47
 go_upto_region 0 with(first|(with_reducible first|refine lld hL ?_|((first|refine lbx hL ?_|refine lal hL ?_|refine lbs hL ?_);clear hL;intro bl w1 hL)|(refine lst' hL ?_;clear hL;intro w1 hL)))
 refine draw_begin [5,6,7,8,9,10,11,12,13,14,15,16] ?_
 refine dv0 ?_
 refine dv1 0 ?_
 refine dv1 1 ?_
 refine dv1 2 ?_
 refine dv1 3 ?_
 refine dv0 ?_
 refine dv1 5 ?_
 refine dv1 6 ?_
 refine dv1 7 ?_
 refine dv1 8 ?_
 refine dv1 9 ?_
 refine dv2 4 10 ?_
 refine dnd hL ?_
 clear hL;intro w1 hL;simp only[fillX,sTa,sTb]
 go_upto_region 2 with(first|(with_reducible first|refine lld hL ?_|((first|refine lbx hL ?_|refine lal hL ?_|refine lbs hL ?_);clear hL;intro bl w1 hL)|(refine lst' hL ?_;clear hL;intro w1 hL)))
 refine draw_begin [19,20,21,22,23,24,25,26,27,28,29,30,2] ?_
 refine dv0 ?_
 refine dv1 0 ?_
 refine dv1 1 ?_
 refine dv1 2 ?_
 refine dv1 3 ?_
 refine dv0 ?_
 refine dv1 5 ?_
 refine dv1 6 ?_
 refine dv1 7 ?_
 refine dv1 8 ?_
 refine dv2 4 9 ?_
 apply draw_val
 ·intro g w hb v;replace hL:=hL.grow hb;have d10:=yv v 10;clear v;simp only[fillD,fLa,fLb,sTa,sTb];simp only[d10]
  refine loc_loadB HI.out hL rfl rfl ?_
  exact cY
 simp only[apN,apC]
 apply draw_ptr
 ·intro g w hb v;replace hL:=hL.grow hb;clear v;simp only[fillD,fLa,fLb,sTa,sTb]
  go_wp2
  exact⟨rfl,_,rfl,(Below.refl _ _).alloc (Nat.le_refl _) _,_,hb.size,rfl,heap_new _ _⟩
 simp only[apN,apC]
 refine draw_end hL (by kernel_rfl) (by kernel_rfl) ?_
 intro g w2 hb hR;simp only[List.length_cons,List.length_nil,Nat.reduceAdd]at hR
 have e0:=yv hR 0
 have e1:=yv hR 1
 have e2:=yv hR 2
 have e3:=yv hR 3
 have e4:=yv hR 4
 have e5:=yv hR 5
 have e6:=yv hR 6
 have e7:=yv hR 7
 have e8:=yv hR 8
 have e9:=yv hR 9
 have e10:=yv hR 10
 have e11:=yv hR 11
 obtain⟨b12,p12,e12,c12⟩:=rat_ptr (allR_get hR (j:=12) (by decide)) rfl rfl
 clear hR;simp only[fillD,fLa,fLb,sTa,sTb]
 simp only[e0,e1,e2,e3,e4,e5,e6,e7,e8,e9,e10,e11,e12]
 clear e0 e1 e2 e3 e4 e5 e6 e7 e8 e9 e10 e11 e12
 replace hL:=hL.gain hb p12 c12
 clear p12 c12
 clear hb
 clear HI
 go_wp2_with (first|(with_reducible first|refine lld hL ?_|((first|refine lbx hL ?_|refine lal hL ?_|refine lbs hL ?_);clear hL;intro bl w1 hL)|(refine lst' hL ?_;clear hL;intro w1 hL))|(go_at_call 95;refine(onward_any w0 bm ⟨pv,pf,some ⟨bc,oc,none⟩,pn,pcap⟩ ins s ⟨_,_,_,_,_,_⟩ a _ (HM.out _ (hL.drop (by repeat (first|exact List.Sublist.refl _|apply List.Sublist.cons)) (fun _ h=>h))) (by simp) rfl HAL.out HAT.out HN.out.1 HN.out.2.1 HN.out.2.2).mono ?_;rintro e w3 ⟨rfl,hM⟩;dsimp only))
 (try simp only[Exit.inBlock,Exit.then]);(first|refine end0 rfl rfl ?_|refine ret0 rfl rfl ?_)
 exact⟨rfl,hM⟩
theorem step_18 (w0:World) (bm:Nat) (p:Pg) (is:Nat→Ins) (ins:Sl) (s:Rs) (k:Nat) (a:Nat) (to:Int) (ib:Int) (num goto:Int) (w:World) (h:Mach w0 bm p ins s w) (hk:s.at'=k) (hkn:k<p.n) (hk6:p.n≤60) (hc:CodeAt w0 p is) (hv:0<s.vars.length) (hi:is k=⟨18,to,(a:Int),ib,num,goto⟩) (ha:a<s.vars.length) (hn:(-9223372036854775808≤(s.val a).n∧(s.val a).n≤9223372036854775807)∧s.lines.length*16+16≤140737488355328∧Pows w0):
  Calls Tryz.prog 47 #[.pointer (some ⟨bm,0,none⟩)] w fun e w'=>e=.returned (.tuple #[])∧Mach w0 bm p ins (onwardS 18 goto a s) w':=by
 obtain⟨r,ts,Rv,Rt,Rl,Rf,hR,hL⟩:=h
 have hvn:=hR.vars.flatlen lenV (by decide)
 obtain⟨gv,cs,hpv,rfl,htk,hlen⟩:=hR.vars.block (by omega)
 simp only[List.cons_append,List.nil_append]at hL
 have HAL:=Lib.hid ha
 have hat:0≤s.at'∧s.at'≤1000000:=by omega
 have HAT:=Lib.hid hat
 have hra:r.at'=(k:Int):=hR.a.trans hk
 have HR:=Lib.hid hR
 have HM:=Lib.hid (fun (w' : World) (hL:Loc w0 w' ((bm,100,machC p r ins)::(gv,77,cs)::(Rt++(Rl++Rf))) [])=>(⟨r,ts,[(gv,77,cs)],Rt,Rl,Rf,HR.out,hL⟩:Mach w0 bm p ins s w'))
 obtain⟨bc,oc,hpc,hcr⟩:=hc.reads
 have hpc2:=hpc (by omega)
 have hI:=hcr k hkn
 rw[hi]at hI
 have HI:=Lib.hid hI
 have HN:=Lib.hid hn
 clear hn
 clear hR hvn htk hlen hcr hpc hI hi hc hk hat ha
 obtain⟨pv,pf,pc,pn,pcap⟩:=p
 dsimp only at hpc2 hkn hk6
 subst hpc2
 obtain⟨ra,⟨vp,vn,vc⟩,rt,rk,rl,re⟩:=r
 dsimp only at hpv hra
 subst hpv
 subst hra
 have hne:((k:Int)==(pn:Int))=false:=by simp;omega
 go_enter Tryz.func47,Tryz.ntmps47
 go_upto_region 0 with(first|(with_reducible first|refine lld hL ?_|((first|refine lbx hL ?_|refine lal hL ?_|refine lbs hL ?_);clear hL;intro bl w1 hL)|(refine lst' hL ?_;clear hL;intro w1 hL)))
 refine draw_begin [5,6,7,8,9,10,11,12,13,14,15,16] ?_
 refine dv0 ?_
 refine dv1 0 ?_
 refine dv1 1 ?_
 refine dv1 2 ?_
 refine dv1 3 ?_
 refine dv0 ?_
 refine dv1 5 ?_
 refine dv1 6 ?_
 refine dv1 7 ?_
 refine dv1 8 ?_
 refine dv1 9 ?_
 refine dv2 4 10 ?_
 refine dnd hL ?_
 clear hL;intro w1 hL;simp only[fillX,sTa,sTb]
 go_upto_region 2 with(first|(with_reducible first|refine lld hL ?_|((first|refine lbx hL ?_|refine lal hL ?_|refine lbs hL ?_);clear hL;intro bl w1 hL)|(refine lst' hL ?_;clear hL;intro w1 hL)))
 refine draw_begin [19,20,21,22,23,24,25,26,27,28,29,30,2] ?_
 refine dv0 ?_
 refine dv1 0 ?_
 refine dv1 1 ?_
 refine dv1 2 ?_
 refine dv1 3 ?_
 refine dv0 ?_
 refine dv1 5 ?_
 refine dv1 6 ?_
 refine dv1 7 ?_
 refine dv1 8 ?_
 refine dv2 4 9 ?_
 apply draw_val
 ·intro g w hb v;replace hL:=hL.grow hb;have d10:=yv v 10;clear v;simp only[fillD,fLa,fLb,sTa,sTb];simp only[d10]
  refine loc_loadB HI.out hL rfl rfl ?_
  exact cY
 simp only[apN,apC]
 apply draw_ptr
 ·intro g w hb v;replace hL:=hL.grow hb;clear v;simp only[fillD,fLa,fLb,sTa,sTb]
  go_wp2
  exact⟨rfl,_,rfl,(Below.refl _ _).alloc (Nat.le_refl _) _,_,hb.size,rfl,heap_new _ _⟩
 simp only[apN,apC]
 refine draw_end hL (by kernel_rfl) (by kernel_rfl) ?_
 intro g w2 hb hR;simp only[List.length_cons,List.length_nil,Nat.reduceAdd]at hR
 have e0:=yv hR 0
 have e1:=yv hR 1
 have e2:=yv hR 2
 have e3:=yv hR 3
 have e4:=yv hR 4
 have e5:=yv hR 5
 have e6:=yv hR 6
 have e7:=yv hR 7
 have e8:=yv hR 8
 have e9:=yv hR 9
 have e10:=yv hR 10
 have e11:=yv hR 11
 obtain⟨b12,p12,e12,c12⟩:=rat_ptr (allR_get hR (j:=12) (by decide)) rfl rfl
 clear hR;simp only[fillD,fLa,fLb,sTa,sTb]
 simp only[e0,e1,e2,e3,e4,e5,e6,e7,e8,e9,e10,e11,e12]
 clear e0 e1 e2 e3 e4 e5 e6 e7 e8 e9 e10 e11 e12
 replace hL:=hL.gain hb p12 c12
 clear p12 c12
 clear hb
 clear HI
 go_wp2_with (first|(with_reducible first|refine lld hL ?_|((first|refine lbx hL ?_|refine lal hL ?_|refine lbs hL ?_);clear hL;intro bl w1 hL)|(refine lst' hL ?_;clear hL;intro w1 hL))|(go_at_call 95;refine(onward_any w0 bm ⟨pv,pf,some ⟨bc,oc,none⟩,pn,pcap⟩ ins s ⟨_,_,_,_,_,_⟩ a _ (HM.out _ (hL.drop (by repeat (first|exact List.Sublist.refl _|apply List.Sublist.cons)) (fun _ h=>h))) (by simp) rfl HAL.out HAT.out HN.out.1 HN.out.2.1 HN.out.2.2).mono ?_;rintro e w3 ⟨rfl,hM⟩;dsimp only))
 (try simp only[Exit.inBlock,Exit.then]);(first|refine end0 rfl rfl ?_|refine ret0 rfl rfl ?_)
 exact⟨rfl,hM⟩
theorem step_16 (w0:World) (bm:Nat) (p:Pg) (is:Nat→Ins) (ins:Sl) (s:Rs) (k:Nat) (to:Int) (ia:Int) (ib:Int) (num goto:Int) (w:World) (h:Mach w0 bm p ins s w) (hk:s.at'=k) (hkn:k<p.n) (hk6:p.n≤60) (hc:CodeAt w0 p is) (hv:0<s.vars.length) (hi:is k=⟨16,to,ia,ib,num,goto⟩)   :
  Calls Tryz.prog 47 #[.pointer (some ⟨bm,0,none⟩)] w fun e w'=>e=.returned (.tuple #[])∧Mach w0 bm p ins (onwardS 16 goto ia.toNat s) w':=by
 obtain⟨r,ts,Rv,Rt,Rl,Rf,hR,hL⟩:=h
 have hvn:=hR.vars.flatlen lenV (by decide)
 obtain⟨gv,cs,hpv,rfl,htk,hlen⟩:=hR.vars.block (by omega)
 simp only[List.cons_append,List.nil_append]at hL
 have hat:0≤s.at'∧s.at'≤1000000:=by omega
 have HAT:=Lib.hid hat
 have hra:r.at'=(k:Int):=hR.a.trans hk
 have HR:=Lib.hid hR
 have HM:=Lib.hid (fun (w' : World) (hL:Loc w0 w' ((bm,100,machC p r ins)::(gv,77,cs)::(Rt++(Rl++Rf))) [])=>(⟨r,ts,[(gv,77,cs)],Rt,Rl,Rf,HR.out,hL⟩:Mach w0 bm p ins s w'))
 obtain⟨bc,oc,hpc,hcr⟩:=hc.reads
 have hpc2:=hpc (by omega)
 have hI:=hcr k hkn
 rw[hi]at hI
 have HI:=Lib.hid hI
 clear hR hvn htk hlen hcr hpc hI hi hc hk hat
 obtain⟨pv,pf,pc,pn,pcap⟩:=p
 dsimp only at hpc2 hkn hk6
 subst hpc2
 obtain⟨ra,⟨vp,vn,vc⟩,rt,rk,rl,re⟩:=r
 dsimp only at hpv hra
 subst hpv
 subst hra
 have hne:((k:Int)==(pn:Int))=false:=by simp;omega
 go_enter Tryz.func47,Tryz.ntmps47
 go_upto_region 0 with(first|(with_reducible first|refine lld hL ?_|((first|refine lbx hL ?_|refine lal hL ?_|refine lbs hL ?_);clear hL;intro bl w1 hL)|(refine lst' hL ?_;clear hL;intro w1 hL)))
 refine draw_begin [5,6,7,8,9,10,11,12,13,14,15,16] ?_
 refine dv0 ?_
 refine dv1 0 ?_
 refine dv1 1 ?_
 refine dv1 2 ?_
 refine dv1 3 ?_
 refine dv0 ?_
 refine dv1 5 ?_
 refine dv1 6 ?_
 refine dv1 7 ?_
 refine dv1 8 ?_
 refine dv1 9 ?_
 refine dv2 4 10 ?_
 refine dnd hL ?_
 clear hL;intro w1 hL;simp only[fillX,sTa,sTb]
 go_upto_region 2 with(first|(with_reducible first|refine lld hL ?_|((first|refine lbx hL ?_|refine lal hL ?_|refine lbs hL ?_);clear hL;intro bl w1 hL)|(refine lst' hL ?_;clear hL;intro w1 hL)))
 refine draw_begin [19,20,21,22,23,24,25,26,27,28,29,30,2] ?_
 refine dv0 ?_
 refine dv1 0 ?_
 refine dv1 1 ?_
 refine dv1 2 ?_
 refine dv1 3 ?_
 refine dv0 ?_
 refine dv1 5 ?_
 refine dv1 6 ?_
 refine dv1 7 ?_
 refine dv1 8 ?_
 refine dv2 4 9 ?_
 apply draw_val
 ·intro g w hb v;replace hL:=hL.grow hb;have d10:=yv v 10;clear v;simp only[fillD,fLa,fLb,sTa,sTb];simp only[d10]
  refine loc_loadB HI.out hL rfl rfl ?_
  exact cY
 simp only[apN,apC]
 apply draw_ptr
 ·intro g w hb v;replace hL:=hL.grow hb;clear v;simp only[fillD,fLa,fLb,sTa,sTb]
  go_wp2
  exact⟨rfl,_,rfl,(Below.refl _ _).alloc (Nat.le_refl _) _,_,hb.size,rfl,heap_new _ _⟩
 simp only[apN,apC]
 refine draw_end hL (by kernel_rfl) (by kernel_rfl) ?_
 intro g w2 hb hR;simp only[List.length_cons,List.length_nil,Nat.reduceAdd]at hR
 have e0:=yv hR 0
 have e1:=yv hR 1
 have e2:=yv hR 2
 have e3:=yv hR 3
 have e4:=yv hR 4
 have e5:=yv hR 5
 have e6:=yv hR 6
 have e7:=yv hR 7
 have e8:=yv hR 8
 have e9:=yv hR 9
 have e10:=yv hR 10
 have e11:=yv hR 11
 obtain⟨b12,p12,e12,c12⟩:=rat_ptr (allR_get hR (j:=12) (by decide)) rfl rfl
 clear hR;simp only[fillD,fLa,fLb,sTa,sTb]
 simp only[e0,e1,e2,e3,e4,e5,e6,e7,e8,e9,e10,e11,e12]
 clear e0 e1 e2 e3 e4 e5 e6 e7 e8 e9 e10 e11 e12
 replace hL:=hL.gain hb p12 c12
 clear p12 c12
 clear hb
 clear HI
 go_wp2_with (first|(with_reducible first|refine lld hL ?_|((first|refine lbx hL ?_|refine lal hL ?_|refine lbs hL ?_);clear hL;intro bl w1 hL)|(refine lst' hL ?_;clear hL;intro w1 hL))|(go_at_call 95;refine(onward_plain w0 bm ⟨pv,pf,some ⟨bc,oc,none⟩,pn,pcap⟩ ins s ⟨_,_,_,_,_,_⟩ _ (HM.out _ (hL.drop (by repeat (first|exact List.Sublist.refl _|apply List.Sublist.cons)) (fun _ h=>h))) (by simp)).mono ?_;rintro e w3 ⟨rfl,hM⟩;dsimp only))
 (try simp only[Exit.inBlock,Exit.then]);(first|refine end0 rfl rfl ?_|refine ret0 rfl rfl ?_)
 exact⟨rfl,hM⟩
theorem step_19 (w0:World) (bm:Nat) (p:Pg) (is:Nat→Ins) (ins:Sl) (s:Rs) (k:Nat) (to:Int) (ia:Int) (ib:Int) (num goto:Int) (w:World) (h:Mach w0 bm p ins s w) (hk:s.at'=k) (hkn:k<p.n) (hk6:p.n≤60) (hc:CodeAt w0 p is) (hv:0<s.vars.length) (hi:is k=⟨19,to,ia,ib,num,goto⟩)   :
  Calls Tryz.prog 47 #[.pointer (some ⟨bm,0,none⟩)] w fun e w'=>e=.returned (.tuple #[])∧Mach w0 bm p ins (onwardS 19 goto ia.toNat s) w':=by
 obtain⟨r,ts,Rv,Rt,Rl,Rf,hR,hL⟩:=h
 have hvn:=hR.vars.flatlen lenV (by decide)
 obtain⟨gv,cs,hpv,rfl,htk,hlen⟩:=hR.vars.block (by omega)
 simp only[List.cons_append,List.nil_append]at hL
 have hat:0≤s.at'∧s.at'≤1000000:=by omega
 have HAT:=Lib.hid hat
 have hra:r.at'=(k:Int):=hR.a.trans hk
 have HR:=Lib.hid hR
 have HM:=Lib.hid (fun (w' : World) (hL:Loc w0 w' ((bm,100,machC p r ins)::(gv,77,cs)::(Rt++(Rl++Rf))) [])=>(⟨r,ts,[(gv,77,cs)],Rt,Rl,Rf,HR.out,hL⟩:Mach w0 bm p ins s w'))
 obtain⟨bc,oc,hpc,hcr⟩:=hc.reads
 have hpc2:=hpc (by omega)
 have hI:=hcr k hkn
 rw[hi]at hI
 have HI:=Lib.hid hI
 clear hR hvn htk hlen hcr hpc hI hi hc hk hat
 obtain⟨pv,pf,pc,pn,pcap⟩:=p
 dsimp only at hpc2 hkn hk6
 subst hpc2
 obtain⟨ra,⟨vp,vn,vc⟩,rt,rk,rl,re⟩:=r
 dsimp only at hpv hra
 subst hpv
 subst hra
 have hne:((k:Int)==(pn:Int))=false:=by simp;omega
 go_enter Tryz.func47,Tryz.ntmps47
 go_upto_region 0 with(first|(with_reducible first|refine lld hL ?_|((first|refine lbx hL ?_|refine lal hL ?_|refine lbs hL ?_);clear hL;intro bl w1 hL)|(refine lst' hL ?_;clear hL;intro w1 hL)))
 refine draw_begin [5,6,7,8,9,10,11,12,13,14,15,16] ?_
 refine dv0 ?_
 refine dv1 0 ?_
 refine dv1 1 ?_
 refine dv1 2 ?_
 refine dv1 3 ?_
 refine dv0 ?_
 refine dv1 5 ?_
 refine dv1 6 ?_
 refine dv1 7 ?_
 refine dv1 8 ?_
 refine dv1 9 ?_
 refine dv2 4 10 ?_
 refine dnd hL ?_
 clear hL;intro w1 hL;simp only[fillX,sTa,sTb]
 go_upto_region 2 with(first|(with_reducible first|refine lld hL ?_|((first|refine lbx hL ?_|refine lal hL ?_|refine lbs hL ?_);clear hL;intro bl w1 hL)|(refine lst' hL ?_;clear hL;intro w1 hL)))
 refine draw_begin [19,20,21,22,23,24,25,26,27,28,29,30,2] ?_
 refine dv0 ?_
 refine dv1 0 ?_
 refine dv1 1 ?_
 refine dv1 2 ?_
 refine dv1 3 ?_
 refine dv0 ?_
 refine dv1 5 ?_
 refine dv1 6 ?_
 refine dv1 7 ?_
 refine dv1 8 ?_
 refine dv2 4 9 ?_
 apply draw_val
 ·intro g w hb v;replace hL:=hL.grow hb;have d10:=yv v 10;clear v;simp only[fillD,fLa,fLb,sTa,sTb];simp only[d10]
  refine loc_loadB HI.out hL rfl rfl ?_
  exact cY
 simp only[apN,apC]
 apply draw_ptr
 ·intro g w hb v;replace hL:=hL.grow hb;clear v;simp only[fillD,fLa,fLb,sTa,sTb]
  go_wp2
  exact⟨rfl,_,rfl,(Below.refl _ _).alloc (Nat.le_refl _) _,_,hb.size,rfl,heap_new _ _⟩
 simp only[apN,apC]
 refine draw_end hL (by kernel_rfl) (by kernel_rfl) ?_
 intro g w2 hb hR;simp only[List.length_cons,List.length_nil,Nat.reduceAdd]at hR
 have e0:=yv hR 0
 have e1:=yv hR 1
 have e2:=yv hR 2
 have e3:=yv hR 3
 have e4:=yv hR 4
 have e5:=yv hR 5
 have e6:=yv hR 6
 have e7:=yv hR 7
 have e8:=yv hR 8
 have e9:=yv hR 9
 have e10:=yv hR 10
 have e11:=yv hR 11
 obtain⟨b12,p12,e12,c12⟩:=rat_ptr (allR_get hR (j:=12) (by decide)) rfl rfl
 clear hR;simp only[fillD,fLa,fLb,sTa,sTb]
 simp only[e0,e1,e2,e3,e4,e5,e6,e7,e8,e9,e10,e11,e12]
 clear e0 e1 e2 e3 e4 e5 e6 e7 e8 e9 e10 e11 e12
 replace hL:=hL.gain hb p12 c12
 clear p12 c12
 clear hb
 clear HI
 go_wp2_with (first|(with_reducible first|refine lld hL ?_|((first|refine lbx hL ?_|refine lal hL ?_|refine lbs hL ?_);clear hL;intro bl w1 hL)|(refine lst' hL ?_;clear hL;intro w1 hL))|(go_at_call 95;refine(onward_plain w0 bm ⟨pv,pf,some ⟨bc,oc,none⟩,pn,pcap⟩ ins s ⟨_,_,_,_,_,_⟩ _ (HM.out _ (hL.drop (by repeat (first|exact List.Sublist.refl _|apply List.Sublist.cons)) (fun _ h=>h))) (by simp)).mono ?_;rintro e w3 ⟨rfl,hM⟩;dsimp only))
 (try simp only[Exit.inBlock,Exit.then]);(first|refine end0 rfl rfl ?_|refine ret0 rfl rfl ?_)
 exact⟨rfl,hM⟩
end Go.Proofs.YtplcndmdkabmeaaGreatDoor
