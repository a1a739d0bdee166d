/-  -/
import Derived.Test.YtplcndmdkabmeaaGreatDoorRunO
import Derived.Test.YtplcndmdkabmeaaGreatDoorReady
set_option linter.unusedSimpArgs false
set_option linter.unusedVariables false
set_option maxRecDepth 100000
set_option maxHeartbeats 3000000
namespace Go.Proofs.YtplcndmdkabmeaaGreatDoor
open Go.RowKit
theorem perm_midR {α:Type}(x:α) (A B C:List α):(x::(A++(B++C))).Perm (A++(B++([x]++C))):=by
 rw[← List.append_assoc,← List.append_assoc A B]
 exact(List.perm_middle (l₁:=A++B) (a:=x) (l₂:=C)).symm
theorem perm_rot {α:Type}(x a b c d:α) (R:List α):(a::b::c::d::x::R).Perm (x::a::b::c::d::R):=List.perm_middle (l₁:=[a,b,c,d])
theorem RowsR.cell {r:Rn}{s:Rs}{ts:List Th}{Rv Rl Rf:List LBlk}{gt:Nat}{cst:List Value}{kk:Nat}(h:RowsR r s ts Rv [(gt,79,cst)] Rl Rf) (hk:kk<ts.length):
  Reads Tryz.prog 42 cst (kk*2+1) (.slice (ts.getD kk dTh).fs.p (ts.getD kk dTh).fs.n (ts.getD kk dTh).fs.cap):=by
 have hn:=h.things.flatlen lenT (by decide)
 have he:=h.things.elem lenT dTh (k:=kk) (by omega)
 refine Reads.cell tValues ?_
 have h1:((cst.drop (kk*2)).take 2)[1]? = (Th.cells (ts.getD kk dTh))[1]? :=by rw[he]
 rw[List.getElem?_take,if_pos (by decide),List.getElem?_drop]at h1
 exact h1
def putS (kk f:Nat) (v:Vl) (s:Rs):Rs:={ s with things:=s.things.set kk ((s.thing kk).1,(s.thing kk).2.set f v),at':=s.at' + 1 }
theorem step_end (w0:World) (bm:Nat) (p:Pg) (ins:Sl) (s:Rs) (w:World) (h:Mach w0 bm p ins s w) (hk:s.at'=p.n):
  Calls Tryz.prog 47 #[.pointer (some ⟨bm,0,none⟩)] w fun e w'=>e=.returned (.tuple #[])∧Mach w0 bm p ins { s with ending:=1 } w':=by
 obtain⟨r,ts,Rv,Rt,Rl,Rf,hR,hL⟩:=h
 have hra:r.at'=(p.n:Int):=hR.a.trans hk
 have HR:=Lib.hid hR
 clear hR hk
 obtain⟨pv,pf,pc,pn,pcap⟩:=p
 obtain⟨ra,rv,rt,rk,rl,re⟩:=r
 dsimp only at hra
 subst hra
 go_enter Tryz.func47,Tryz.ntmps47
 go_upto_region 0 with(first|(with_reducible first|refine lld hL ?_|((first|refine lbx hL ?_|refine lal hL ?_|refine lbs hL ?_);clear hL;intro bl w1 hL)|(refine lst' hL ?_;clear hL;intro w1 hL)))
 refine draw_begin [5,6,7,8,9,10,11,12,13,14,15,16] ?_
 refine dv0 ?_
 refine dv1 0 ?_
 refine dv1 1 ?_
 refine dv1 2 ?_
 refine dv1 3 ?_
 refine dv0 ?_
 refine dv1 5 ?_
 refine dv1 6 ?_
 refine dv1 7 ?_
 refine dv1 8 ?_
 refine dv1 9 ?_
 refine dv2 4 10 ?_
 refine dnd hL ?_
 clear hL;intro w1 hL;simp only[fillX,sTa,sTb]
 go_wp2_with (first|(with_reducible first|refine lld hL ?_|((first|refine lbx hL ?_|refine lal hL ?_|refine lbs hL ?_);clear hL;intro bl w1 hL)|(refine lst' hL ?_;clear hL;intro w1 hL))|(go_at_call 48;refine(over_any w0 bm ⟨pv,pf,pc,pn,pcap⟩ ins s 1 _ ⟨_,ts,Rv,Rt,Rl,Rf,HR.out,hL⟩).mono ?_;rintro e w3 ⟨rfl,hM⟩;dsimp only))
 (try simp only[Exit.inBlock,Exit.then]);(first|refine end0 rfl rfl ?_|refine ret0 rfl rfl ?_)
 exact⟨rfl,hM⟩
theorem step_12_no (w0:World) (bm:Nat) (p:Pg) (is:Nat→Ins) (ins:Sl) (s:Rs) (k:Nat) (a:Nat) (to:Int) (ib:Int) (num goto:Int) (w:World) (h:Mach w0 bm p ins s w) (hk:s.at'=k) (hkn:k<p.n) (hk6:p.n≤60) (hc:CodeAt w0 p is) (hv:0<s.vars.length) (hi:is k=⟨12,to,(a:Int),ib,num,goto⟩) (ha:a<s.vars.length) (hn:(s.val a).kind≠3):
  Calls Tryz.prog 47 #[.pointer (some ⟨bm,0,none⟩)] w fun e w'=>e=.returned (.tuple #[])∧Mach w0 bm p ins ({ s with ending:=2 }) w':=by
 obtain⟨r,ts,Rv,Rt,Rl,Rf,hR,hL⟩:=h
 have hvn:=hR.vars.flatlen lenV (by decide)
 obtain⟨gv,cs,hpv,rfl,htk,hlen⟩:=hR.vars.block (by omega)
 simp only[List.cons_append,List.nil_append]at hL
 have HAL:=Lib.hid ha
 have hat:0≤s.at'∧s.at'≤1000000:=by omega
 have HAT:=Lib.hid hat
 have hra:r.at'=(k:Int):=hR.a.trans hk
 have HR:=Lib.hid hR
 have HM:=Lib.hid (fun (w' : World) (hL:Loc w0 w' ((bm,100,machC p r ins)::(gv,77,cs)::(Rt++(Rl++Rf))) [])=>(⟨r,ts,[(gv,77,cs)],Rt,Rl,Rf,HR.out,hL⟩:Mach w0 bm p ins s w'))
 obtain⟨bc,oc,hpc,hcr⟩:=hc.reads
 have hpc2:=hpc (by omega)
 have hI:=hcr k hkn
 rw[hi]at hI
 have HI:=Lib.hid hI
 have HN:=Lib.hid hn
 clear hn
 clear hR hvn htk hlen hcr hpc hI hi hc hk hat ha
 obtain⟨pv,pf,pc,pn,pcap⟩:=p
 dsimp only at hpc2 hkn hk6
 subst hpc2
 obtain⟨ra,⟨vp,vn,vc⟩,rt,rk,rl,re⟩:=r
 dsimp only at hpv hra
 subst hpv
 subst hra
 have hne:((k:Int)==(pn:Int))=false:=by simp;omega
 go_enter Tryz.func47,Tryz.ntmps47
 go_upto_region 0 with(first|(with_reducible first|refine lld hL ?_|((first|refine lbx hL ?_|refine lal hL ?_|refine lbs hL ?_);clear hL;intro bl w1 hL)|(refine lst' hL ?_;clear hL;intro w1 hL)))
 refine draw_begin [5,6,7,8,9,10,11,12,13,14,15,16] ?_
 refine dv0 ?_
 refine dv1 0 ?_
 refine dv1 1 ?_
 refine dv1 2 ?_
 refine dv1 3 ?_
 refine dv0 ?_
 refine dv1 5 ?_
 refine dv1 6 ?_
 refine dv1 7 ?_
 refine dv1 8 ?_
 refine dv1 9 ?_
 refine dv2 4 10 ?_
 refine dnd hL ?_
 clear hL;intro w1 hL;simp only[fillX,sTa,sTb]
 go_upto_region 2 with(first|(with_reducible first|refine lld hL ?_|((first|refine lbx hL ?_|refine lal hL ?_|refine lbs hL ?_);clear hL;intro bl w1 hL)|(refine lst' hL ?_;clear hL;intro w1 hL)))
 refine draw_begin [19,20,21,22,23,24,25,26,27,28,29,30,2] ?_
 refine dv0 ?_
 refine dv1 0 ?_
 refine dv1 1 ?_
 refine dv1 2 ?_
 refine dv1 3 ?_
 refine dv0 ?_
 refine dv1 5 ?_
 refine dv1 6 ?_
 refine dv1 7 ?_
 refine dv1 8 ?_
 refine dv2 4 9 ?_
 apply draw_val
 ·intro g w hb y;replace hL:=hL.grow hb;have d10:=yv y 10;clear y;simp only[fillD,fLa,fLb,sTa,sTb];simp only[d10]
  refine loc_loadB HI.out hL rfl rfl ?_
  exact cY
 simp only[apN,apC]
 apply draw_ptr
 ·intro g w hb y;replace hL:=hL.grow hb;clear y;simp only[fillD,fLa,fLb,sTa,sTb]
  go_wp2
  exact⟨rfl,_,rfl,(Below.refl _ _).alloc (Nat.le_refl _) _,_,hb.size,rfl,heap_new _ _⟩
 simp only[apN,apC]
 refine draw_end hL (by kernel_rfl) (by kernel_rfl) ?_
 intro g w2 hb hR;simp only[List.length_cons,List.length_nil,Nat.reduceAdd]at hR
 have e0:=yv hR 0
 have e1:=yv hR 1
 have e2:=yv hR 2
 have e3:=yv hR 3
 have e4:=yv hR 4
 have e5:=yv hR 5
 have e6:=yv hR 6
 have e7:=yv hR 7
 have e8:=yv hR 8
 have e9:=yv hR 9
 have e10:=yv hR 10
 have e11:=yv hR 11
 obtain⟨b12,p12,e12,c12⟩:=rat_ptr (allR_get hR (j:=12) (by decide)) rfl rfl
 clear hR;simp only[fillD,fLa,fLb,sTa,sTb]
 simp only[e0,e1,e2,e3,e4,e5,e6,e7,e8,e9,e10,e11,e12]
 clear e0 e1 e2 e3 e4 e5 e6 e7 e8 e9 e10 e11 e12
 replace hL:=hL.gain hb p12 c12
 clear p12 c12
 clear hb
 clear HI
 go_wp2_with (first|(with_reducible first|refine lld hL ?_|((first|refine lbx hL ?_|refine lal hL ?_|refine lbs hL ?_);clear hL;intro bl w1 hL)|(refine lst' hL ?_;clear hL;intro w1 hL))|(go_at_call 93;refine(field_no w0 bm ⟨pv,pf,some ⟨bc,oc,none⟩,pn,pcap⟩ ins s ⟨_,_,_,_,_,_⟩ a _ (HM.out _ (hL.drop (by repeat (first|exact List.Sublist.refl _|apply List.Sublist.cons)) (fun _ h=>h))) rfl HAL.out HN.out).mono ?_;rintro e w3 ⟨rfl,hM⟩;dsimp only))
 (try simp only[Exit.inBlock,Exit.then]);(first|refine end0 rfl rfl ?_|refine ret0 rfl rfl ?_)
 exact⟨rfl,hM⟩
theorem step_13_no (w0:World) (bm:Nat) (p:Pg) (is:Nat→Ins) (ins:Sl) (s:Rs) (k:Nat) (a:Nat) (to:Int) (ib:Int) (num goto:Int) (w:World) (h:Mach w0 bm p ins s w) (hk:s.at'=k) (hkn:k<p.n) (hk6:p.n≤60) (hc:CodeAt w0 p is) (hv:0<s.vars.length) (hi:is k=⟨13,to,(a:Int),ib,num,goto⟩) (ha:a<s.vars.length) (hn:(s.val a).kind≠3):
  Calls Tryz.prog 47 #[.pointer (some ⟨bm,0,none⟩)] w fun e w'=>e=.returned (.tuple #[])∧Mach w0 bm p ins ({ s with ending:=2 }) w':=by
 obtain⟨r,ts,Rv,Rt,Rl,Rf,hR,hL⟩:=h
 have hvn:=hR.vars.flatlen lenV (by decide)
 obtain⟨gv,cs,hpv,rfl,htk,hlen⟩:=hR.vars.block (by omega)
 simp only[List.cons_append,List.nil_append]at hL
 have HAL:=Lib.hid ha
 have hat:0≤s.at'∧s.at'≤1000000:=by omega
 have HAT:=Lib.hid hat
 have hra:r.at'=(k:Int):=hR.a.trans hk
 have HR:=Lib.hid hR
 have HM:=Lib.hid (fun (w' : World) (hL:Loc w0 w' ((bm,100,machC p r ins)::(gv,77,cs)::(Rt++(Rl++Rf))) [])=>(⟨r,ts,[(gv,77,cs)],Rt,Rl,Rf,HR.out,hL⟩:Mach w0 bm p ins s w'))
 obtain⟨bc,oc,hpc,hcr⟩:=hc.reads
 have hpc2:=hpc (by omega)
 have hI:=hcr k hkn
 rw[hi]at hI
 have HI:=Lib.hid hI
 have HN:=Lib.hid hn
 clear hn
 clear hR hvn htk hlen hcr hpc hI hi hc hk hat ha
 obtain⟨pv,pf,pc,pn,pcap⟩:=p
 dsimp only at hpc2 hkn hk6
 subst hpc2
 obtain⟨ra,⟨vp,vn,vc⟩,rt,rk,rl,re⟩:=r
 dsimp only at hpv hra
 subst hpv
 subst hra
 have hne:((k:Int)==(pn:Int))=false:=by simp;omega
 go_enter Tryz.func47,Tryz.ntmps47
 go_upto_region 0 with(first|(with_reducible first|refine lld hL ?_|((first|refine lbx hL ?_|refine lal hL ?_|refine lbs hL ?_);clear hL;intro bl w1 hL)|(refine lst' hL ?_;clear hL;intro w1 hL)))
 refine draw_begin [5,6,7,8,9,10,11,12,13,14,15,16] ?_
 refine dv0 ?_
 refine dv1 0 ?_
 refine dv1 1 ?_
 refine dv1 2 ?_
 refine dv1 3 ?_
 refine dv0 ?_
 refine dv1 5 ?_
 refine dv1 6 ?_
 refine dv1 7 ?_
 refine dv1 8 ?_
 refine dv1 9 ?_
 refine dv2 4 10 ?_
 refine dnd hL ?_
 clear hL;intro w1 hL;simp only[fillX,sTa,sTb]
 go_upto_region 2 with(first|(with_reducible first|refine lld hL ?_|((first|refine lbx hL ?_|refine lal hL ?_|refine lbs hL ?_);clear hL;intro bl w1 hL)|(refine lst' hL ?_;clear hL;intro w1 hL)))
 refine draw_begin [19,20,21,22,23,24,25,26,27,28,29,30,2] ?_
 refine dv0 ?_
 refine dv1 0 ?_
 refine dv1 1 ?_
 refine dv1 2 ?_
 refine dv1 3 ?_
 refine dv0 ?_
 refine dv1 5 ?_
 refine dv1 6 ?_
 refine dv1 7 ?_
 refine dv1 8 ?_
 refine dv2 4 9 ?_
 apply draw_val
 ·intro g w hb y;replace hL:=hL.grow hb;have d10:=yv y 10;clear y;simp only[fillD,fLa,fLb,sTa,sTb];simp only[d10]
  refine loc_loadB HI.out hL rfl rfl ?_
  exact cY
 simp only[apN,apC]
 apply draw_ptr
 ·intro g w hb y;replace hL:=hL.grow hb;clear y;simp only[fillD,fLa,fLb,sTa,sTb]
  go_wp2
  exact⟨rfl,_,rfl,(Below.refl _ _).alloc (Nat.le_refl _) _,_,hb.size,rfl,heap_new _ _⟩
 simp only[apN,apC]
 refine draw_end hL (by kernel_rfl) (by kernel_rfl) ?_
 intro g w2 hb hR;simp only[List.length_cons,List.length_nil,Nat.reduceAdd]at hR
 have e0:=yv hR 0
 have e1:=yv hR 1
 have e2:=yv hR 2
 have e3:=yv hR 3
 have e4:=yv hR 4
 have e5:=yv hR 5
 have e6:=yv hR 6
 have e7:=yv hR 7
 have e8:=yv hR 8
 have e9:=yv hR 9
 have e10:=yv hR 10
 have e11:=yv hR 11
 obtain⟨b12,p12,e12,c12⟩:=rat_ptr (allR_get hR (j:=12) (by decide)) rfl rfl
 clear hR;simp only[fillD,fLa,fLb,sTa,sTb]
 simp only[e0,e1,e2,e3,e4,e5,e6,e7,e8,e9,e10,e11,e12]
 clear e0 e1 e2 e3 e4 e5 e6 e7 e8 e9 e10 e11 e12
 replace hL:=hL.gain hb p12 c12
 clear p12 c12
 clear hb
 clear HI
 go_wp2_with (first|(with_reducible first|refine lld hL ?_|((first|refine lbx hL ?_|refine lal hL ?_|refine lbs hL ?_);clear hL;intro bl w1 hL)|(refine lst' hL ?_;clear hL;intro w1 hL))|(go_at_call 93;refine(field_no w0 bm ⟨pv,pf,some ⟨bc,oc,none⟩,pn,pcap⟩ ins s ⟨_,_,_,_,_,_⟩ a _ (HM.out _ (hL.drop (by repeat (first|exact List.Sublist.refl _|apply List.Sublist.cons)) (fun _ h=>h))) rfl HAL.out HN.out).mono ?_;rintro e w3 ⟨rfl,hM⟩;dsimp only))
 (try simp only[Exit.inBlock,Exit.then]);(first|refine end0 rfl rfl ?_|refine ret0 rfl rfl ?_)
 exact⟨rfl,hM⟩
theorem step_12_yes (w0:World) (bm:Nat) (p:Pg) (is:Nat→Ins) (ins:Sl) (s:Rs) (k:Nat) (t:Nat) (ib:Int) (a kk f:Nat) (goto:Int) (w:World) (h:Mach w0 bm p ins s w) (hk:s.at'=k) (hkn:k<p.n) (hk6:p.n≤60) (hc:CodeAt w0 p is) (hv:0<s.vars.length) (hi:is k=⟨12,(t:Int),(a:Int),ib,(f:Int),goto⟩) (ht:t<s.vars.length) (ha:a<s.vars.length)
  (h3:s.val a=⟨3,(kk:Int)⟩) (hkk:kk<s.things.length) (hf:f<(s.thing kk).2.length):
  Calls Tryz.prog 47 #[.pointer (some ⟨bm,0,none⟩)] w fun e w'=>e=.returned (.tuple #[])∧Mach w0 bm p ins (s.set t (s.field kk f)) w':=by
 replace hf:f<(s.things.getD kk dT).2.length:=hf
 obtain⟨r,ts,Rv,Rt,Rl,Rf,hR,hL⟩:=h
 have hvn:=hR.vars.flatlen lenV (by decide)
 have htn:=hR.things.flatlen lenT (by decide)
 have hfl:=hR.fields.len
 obtain⟨gv,cs,hpv,rfl,htk,hlen⟩:=hR.vars.block (by omega)
 obtain⟨gt,cst,hpt,rfl,htk2,hlen2⟩:=hR.things.block (by omega)
 have hcell:=hR.cell (kk:=kk) (by omega)
 obtain⟨Ra,R,Rb,rfl,hsite,hrow,hback⟩:=hR.fields.get dTh kk (by omega)
 have hfn:=hrow.flatlen lenV (by decide)
 obtain⟨gf,csf,hpf,rfl,htk3,hlen3⟩:=hrow.block (by omega)
 simp only[List.cons_append,List.nil_append]at hL
 replace hL:=hL.perm ((((perm_midR (gf,77,csf) Rl Ra Rb).cons (gt,79,cst)).cons (gv,77,cs)).cons _)
 obtain⟨va,hva⟩:∃ x,x=s.val a:=⟨_,rfl⟩
 have HA:=Lib.hid (show Reads Tryz.prog 77 cs (a*2) va.v by rw[hva];exact Reads.agg tValue (hR.vars.elem lenV dV (k:=a) (by omega)) rfl)
 have HAV:=Lib.hid hva
 have ha1:a<r.vars.n:=by omega
 have h3' : va=⟨3,(kk:Int)⟩:=hva.trans h3
 subst h3'
 obtain⟨vf,hvf⟩:∃ x,x=s.field kk f:=⟨_,rfl⟩
 have HFE:=Lib.hid (show Reads Tryz.prog 77 csf (f*2) vf.v by rw[hvf];exact Reads.agg tValue (hrow.elem lenV dV (k:=f) (by omega)) rfl)
 have HVF:=Lib.hid hvf
 clear hvf
 rw[hpf]at hcell
 have hf1:f<(ts.getD kk dTh).fs.n:=by omega
 have HPut:=Lib.hid (fun v=>hrow.put lenV dV (k:=f) hf1 v)
 have HBack:=Lib.hid hback
 have HSite:=Lib.hid hsite
 have hk1:kk<r.things.n:=by omega
 have HLen3:=Lib.hid (show f*2+2≤csf.length by have:=hrow.fits;rw[hlen3];omega)
 obtain⟨fn,hfn2⟩:∃ x,x=(ts.getD kk dTh).fs.n:=⟨_,rfl⟩
 obtain⟨fc,hfc2⟩:∃ x,x=(ts.getD kk dTh).fs.cap:=⟨_,rfl⟩
 rw[← hfn2,← hfc2]at hcell
 rw[← hfn2]at hf1
 have HTH:=Lib.hid hcell
 have HT:=Lib.hid ht
 have hat:0≤s.at'∧s.at'≤1000000:=by omega
 have HAT:=Lib.hid hat
 have hra:r.at'=(k:Int):=hR.a.trans hk
 have HR:=Lib.hid hR
 have HM:=Lib.hid (fun (w' : World) (hL:Loc w0 w' ((bm,100,machC p r ins)::(gv,77,cs)::(gt,79,cst)::(gf,77,csf)::(Rl++(Ra++Rb))) [])=>
  (⟨r,ts,[(gv,77,cs)],[(gt,79,cst)],Rl,_,HR.out,hL.perm ((((perm_midR (gf,77,csf) Rl Ra Rb).symm.cons (gt,79,cst)).cons (gv,77,cs)).cons _)⟩:Mach w0 bm p ins s w'))
 have HM2:=Lib.hid (fun (v:Vl) (w' : World) (hL:Loc w0 w' ((bm,100,machC p { r with at':=(k:Int)+1 } ins)::(gv,77,cs)::(gt,79,cst)::(gf,77,spliced csf (f*2) v.cells)::(Rl++(Ra++Rb))) [])=>
  (⟨{ r with at':=(k:Int)+1 },ts,[(gv,77,cs)],[(gt,79,cst)],Rl,Ra++([(gf,77,spliced csf (f*2) v.cells)]++Rb),(by
   obtain⟨k1,k2,k3,k4,k5,k6,k7⟩:=HR.out
   refine⟨k1,k2,k3,?_,by show (k:Int)+1=s.at' + 1;rw[hk],k6,k7⟩
   show FRows ts (s.things.set kk ((s.thing kk).1,(s.thing kk).2.set f v)) _
   have:=HBack.out _ _ (HPut.out v)
   rw[← HSite.out]at this
   exact this),hL.perm ((((perm_midR (gf,77,spliced csf (f*2) v.cells) Rl Ra Rb).symm.cons (gt,79,cst)).cons (gv,77,cs)).cons _)⟩:Mach w0 bm p ins (putS kk f v s) w'))
 obtain⟨bc,oc,hpc,hcr⟩:=hc.reads
 have hpc2:=hpc (by omega)
 have hI:=hcr k hkn
 rw[hi]at hI
 have HI:=Lib.hid hI
 clear hcell hback hsite hrow hfn htk htk2 htk3 hlen hlen2 hlen3 hfl htn hR hvn hcr hpc hI hi hc hk hat h3 hva hpf hfn2 hfc2 ha ht
 obtain⟨pv,pf,pc,pn,pcap⟩:=p
 dsimp only at hpc2 hkn hk6
 subst hpc2
 obtain⟨ra,⟨vp,vn,vc⟩,⟨tp,tn,tc⟩,rk,rl,re⟩:=r
 dsimp only at hpv hpt hra hk1 ha1
 subst hpv
 subst hpt
 subst hra
 have hne:((k:Int)==(pn:Int))=false:=by simp;omega
 go_enter Tryz.func47,Tryz.ntmps47
 go_upto_region 0 with(first|(with_reducible first|refine lld hL ?_|((first|refine lbx hL ?_|refine lal hL ?_|refine lbs hL ?_);clear hL;intro bl w1 hL)|(refine lst' hL ?_;clear hL;intro w1 hL)))
 refine draw_begin [5,6,7,8,9,10,11,12,13,14,15,16] ?_
 refine dv0 ?_
 refine dv1 0 ?_
 refine dv1 1 ?_
 refine dv1 2 ?_
 refine dv1 3 ?_
 refine dv0 ?_
 refine dv1 5 ?_
 refine dv1 6 ?_
 refine dv1 7 ?_
 refine dv1 8 ?_
 refine dv1 9 ?_
 refine dv2 4 10 ?_
 refine dnd hL ?_
 clear hL;intro w1 hL;simp only[fillX,sTa,sTb]
 go_upto_region 2 with(first|(with_reducible first|refine lld hL ?_|((first|refine lbx hL ?_|refine lal hL ?_|refine lbs hL ?_);clear hL;intro bl w1 hL)|(refine lst' hL ?_;clear hL;intro w1 hL)))
 refine draw_begin [19,20,21,22,23,24,25,26,27,28,29,30,2] ?_
 refine dv0 ?_
 refine dv1 0 ?_
 refine dv1 1 ?_
 refine dv1 2 ?_
 refine dv1 3 ?_
 refine dv0 ?_
 refine dv1 5 ?_
 refine dv1 6 ?_
 refine dv1 7 ?_
 refine dv1 8 ?_
 refine dv2 4 9 ?_
 apply draw_val
 ·intro g w hb y;replace hL:=hL.grow hb;have d10:=yv y 10;clear y;simp only[fillD,fLa,fLb,sTa,sTb];simp only[d10]
  refine loc_loadB HI.out hL rfl rfl ?_
  exact cY
 simp only[apN,apC]
 apply draw_ptr
 ·intro g w hb y;replace hL:=hL.grow hb;clear y;simp only[fillD,fLa,fLb,sTa,sTb]
  go_wp2
  exact⟨rfl,_,rfl,(Below.refl _ _).alloc (Nat.le_refl _) _,_,hb.size,rfl,heap_new _ _⟩
 simp only[apN,apC]
 refine draw_end hL (by kernel_rfl) (by kernel_rfl) ?_
 intro g w2 hb hR;simp only[List.length_cons,List.length_nil,Nat.reduceAdd]at hR
 have e0:=yv hR 0
 have e1:=yv hR 1
 have e2:=yv hR 2
 have e3:=yv hR 3
 have e4:=yv hR 4
 have e5:=yv hR 5
 have e6:=yv hR 6
 have e7:=yv hR 7
 have e8:=yv hR 8
 have e9:=yv hR 9
 have e10:=yv hR 10
 have e11:=yv hR 11
 obtain⟨b12,p12,e12,c12⟩:=rat_ptr (allR_get hR (j:=12) (by decide)) rfl rfl
 clear hR;simp only[fillD,fLa,fLb,sTa,sTb]
 simp only[e0,e1,e2,e3,e4,e5,e6,e7,e8,e9,e10,e11,e12]
 clear e0 e1 e2 e3 e4 e5 e6 e7 e8 e9 e10 e11 e12
 replace hL:=hL.gain hb p12 c12
 clear p12 c12
 clear hb
 clear HI
 go_upto_region 27 with(first|(with_reducible first|refine lld hL ?_|((first|refine lbx hL ?_|refine lal hL ?_|refine lbs hL ?_);clear hL;intro bl w1 hL)|(refine lst' hL ?_;clear hL;intro w1 hL))|(go_at_call 93;refine(field_yes w0 bm gv gt gf ⟨pv,pf,some ⟨bc,oc,none⟩,pn,pcap⟩ ins (k:Int) vn vc tn tc fn fc rk rl re cs cst csf (_::(Rl++(Ra++Rb))) ⟨_,_,_,_,_,_⟩ a kk f _ (hL.perm (perm_rot _ _ _ _ _ _)) ⟨rfl,rfl⟩ ha1 hk1 hf1 HA.out HTH.out).mono ?_;rintro e w3 ⟨rfl,hL2⟩;replace hL:=hL2;clear hL2;dsimp only))
 clear HA HTH HPut HBack HM2
 refine draw_begin [141,142,143,144,145,146] ?_
 refine dv0 ?_
 refine dv0 ?_
 refine dv1 1 ?_
 refine dv0 ?_
 refine dv1 3 ?_
 apply draw_val
 ·intro g w hb y;replace hL:=hL.grow hb;have d4:=yv y 4;clear y;simp only[fillD,fLa,fLb,sTa,sTb];simp only[d4]
  refine loc_load hL rfl rfl cIn HFE.out ?_
  exact cY
 simp only[apN,apC]
 refine dnd hL ?_
 clear hL;intro w5 hL;simp only[fillX,sTa,sTb]
 clear HFE
 go_wp2_with (first|(with_reducible first|refine lld hL ?_|((first|refine lbx hL ?_|refine lal hL ?_|refine lbs hL ?_);clear hL;intro bl w1 hL)|(refine lst' hL ?_;clear hL;intro w1 hL))|(go_at_call 88;refine(set_any w0 bm ⟨pv,pf,some ⟨bc,oc,none⟩,pn,pcap⟩ ins s t vf _ (HM.out _ (hL.drop (List.Sublist.cons_cons _ (.cons_cons _ (.cons_cons _ (.cons_cons _ (List.sublist_cons_self _ _))))) (fun _ h=>h))) HT.out HAT.out).mono ?_;rintro e w3 ⟨rfl,hM⟩;dsimp only))
 (try simp only[Exit.inBlock,Exit.then]);(first|refine end0 rfl rfl ?_|refine ret0 rfl rfl ?_)
 have h:=hM
 rw[HVF.out]at h
 exact⟨rfl,h⟩
theorem step_13_yes (w0:World) (bm:Nat) (p:Pg) (is:Nat→Ins) (ins:Sl) (s:Rs) (k:Nat) (to:Int) (b:Nat) (a kk f:Nat) (goto:Int) (w:World) (h:Mach w0 bm p ins s w) (hk:s.at'=k) (hkn:k<p.n) (hk6:p.n≤60) (hc:CodeAt w0 p is) (hv:0<s.vars.length) (hi:is k=⟨13,to,(a:Int),(b:Int),(f:Int),goto⟩) (hb:b<s.vars.length) (ha:a<s.vars.length)
  (h3:s.val a=⟨3,(kk:Int)⟩) (hkk:kk<s.things.length) (hf:f<(s.thing kk).2.length):
  Calls Tryz.prog 47 #[.pointer (some ⟨bm,0,none⟩)] w fun e w'=>e=.returned (.tuple #[])∧Mach w0 bm p ins (putS kk f (s.val b) s) w':=by
 replace hf:f<(s.things.getD kk dT).2.length:=hf
 obtain⟨r,ts,Rv,Rt,Rl,Rf,hR,hL⟩:=h
 have hvn:=hR.vars.flatlen lenV (by decide)
 have htn:=hR.things.flatlen lenT (by decide)
 have hfl:=hR.fields.len
 obtain⟨gv,cs,hpv,rfl,htk,hlen⟩:=hR.vars.block (by omega)
 obtain⟨gt,cst,hpt,rfl,htk2,hlen2⟩:=hR.things.block (by omega)
 have hcell:=hR.cell (kk:=kk) (by omega)
 obtain⟨Ra,R,Rb,rfl,hsite,hrow,hback⟩:=hR.fields.get dTh kk (by omega)
 have hfn:=hrow.flatlen lenV (by decide)
 obtain⟨gf,csf,hpf,rfl,htk3,hlen3⟩:=hrow.block (by omega)
 simp only[List.cons_append,List.nil_append]at hL
 replace hL:=hL.perm ((((perm_midR (gf,77,csf) Rl Ra Rb).cons (gt,79,cst)).cons (gv,77,cs)).cons _)
 obtain⟨va,hva⟩:∃ x,x=s.val a:=⟨_,rfl⟩
 have HA:=Lib.hid (show Reads Tryz.prog 77 cs (a*2) va.v by rw[hva];exact Reads.agg tValue (hR.vars.elem lenV dV (k:=a) (by omega)) rfl)
 have HAV:=Lib.hid hva
 have ha1:a<r.vars.n:=by omega
 obtain⟨vb,hvb⟩:∃ x,x=s.val b:=⟨_,rfl⟩
 have HB:=Lib.hid (show Reads Tryz.prog 77 cs (b*2) vb.v by rw[hvb];exact Reads.agg tValue (hR.vars.elem lenV dV (k:=b) (by omega)) rfl)
 have HBV:=Lib.hid hvb
 have hb1:b<r.vars.n:=by omega
 have h3' : va=⟨3,(kk:Int)⟩:=hva.trans h3
 subst h3'
 obtain⟨vf,hvf⟩:∃ x,x=s.field kk f:=⟨_,rfl⟩
 have HFE:=Lib.hid (show Reads Tryz.prog 77 csf (f*2) vf.v by rw[hvf];exact Reads.agg tValue (hrow.elem lenV dV (k:=f) (by omega)) rfl)
 have HVF:=Lib.hid hvf
 clear hvf
 rw[hpf]at hcell
 have hf1:f<(ts.getD kk dTh).fs.n:=by omega
 have HPut:=Lib.hid (fun v=>hrow.put lenV dV (k:=f) hf1 v)
 have HBack:=Lib.hid hback
 have HSite:=Lib.hid hsite
 have hk1:kk<r.things.n:=by omega
 have HLen3:=Lib.hid (show f*2+2≤csf.length by have:=hrow.fits;rw[hlen3];omega)
 obtain⟨fn,hfn2⟩:∃ x,x=(ts.getD kk dTh).fs.n:=⟨_,rfl⟩
 obtain⟨fc,hfc2⟩:∃ x,x=(ts.getD kk dTh).fs.cap:=⟨_,rfl⟩
 rw[← hfn2,← hfc2]at hcell
 rw[← hfn2]at hf1
 have HTH:=Lib.hid hcell
 have HBL:=Lib.hid hb
 have hat:0≤s.at'∧s.at'≤1000000:=by omega
 have HAT:=Lib.hid hat
 have hra:r.at'=(k:Int):=hR.a.trans hk
 have HR:=Lib.hid hR
 have HM:=Lib.hid (fun (w' : World) (hL:Loc w0 w' ((bm,100,machC p r ins)::(gv,77,cs)::(gt,79,cst)::(gf,77,csf)::(Rl++(Ra++Rb))) [])=>
  (⟨r,ts,[(gv,77,cs)],[(gt,79,cst)],Rl,_,HR.out,hL.perm ((((perm_midR (gf,77,csf) Rl Ra Rb).symm.cons (gt,79,cst)).cons (gv,77,cs)).cons _)⟩:Mach w0 bm p ins s w'))
 have HM2:=Lib.hid (fun (v:Vl) (w' : World) (hL:Loc w0 w' ((bm,100,machC p { r with at':=(k:Int)+1 } ins)::(gv,77,cs)::(gt,79,cst)::(gf,77,spliced csf (f*2) v.cells)::(Rl++(Ra++Rb))) [])=>
  (⟨{ r with at':=(k:Int)+1 },ts,[(gv,77,cs)],[(gt,79,cst)],Rl,Ra++([(gf,77,spliced csf (f*2) v.cells)]++Rb),(by
   obtain⟨k1,k2,k3,k4,k5,k6,k7⟩:=HR.out
   refine⟨k1,k2,k3,?_,by show (k:Int)+1=s.at' + 1;rw[hk],k6,k7⟩
   show FRows ts (s.things.set kk ((s.thing kk).1,(s.thing kk).2.set f v)) _
   have:=HBack.out _ _ (HPut.out v)
   rw[← HSite.out]at this
   exact this),hL.perm ((((perm_midR (gf,77,spliced csf (f*2) v.cells) Rl Ra Rb).symm.cons (gt,79,cst)).cons (gv,77,cs)).cons _)⟩:Mach w0 bm p ins (putS kk f v s) w'))
 obtain⟨bc,oc,hpc,hcr⟩:=hc.reads
 have hpc2:=hpc (by omega)
 have hI:=hcr k hkn
 rw[hi]at hI
 have HI:=Lib.hid hI
 clear hcell hback hsite hrow hfn htk htk2 htk3 hlen hlen2 hlen3 hfl htn hR hvn hcr hpc hI hi hc hk hat h3 hva hpf hfn2 hfc2 ha hb hvb
 obtain⟨pv,pf,pc,pn,pcap⟩:=p
 dsimp only at hpc2 hkn hk6
 subst hpc2
 obtain⟨ra,⟨vp,vn,vc⟩,⟨tp,tn,tc⟩,rk,rl,re⟩:=r
 dsimp only at hpv hpt hra hk1 ha1 hb1
 subst hpv
 subst hpt
 subst hra
 have hne:((k:Int)==(pn:Int))=false:=by simp;omega
 go_enter Tryz.func47,Tryz.ntmps47
 go_upto_region 0 with(first|(with_reducible first|refine lld hL ?_|((first|refine lbx hL ?_|refine lal hL ?_|refine lbs hL ?_);clear hL;intro bl w1 hL)|(refine lst' hL ?_;clear hL;intro w1 hL)))
 refine draw_begin [5,6,7,8,9,10,11,12,13,14,15,16] ?_
 refine dv0 ?_
 refine dv1 0 ?_
 refine dv1 1 ?_
 refine dv1 2 ?_
 refine dv1 3 ?_
 refine dv0 ?_
 refine dv1 5 ?_
 refine dv1 6 ?_
 refine dv1 7 ?_
 refine dv1 8 ?_
 refine dv1 9 ?_
 refine dv2 4 10 ?_
 refine dnd hL ?_
 clear hL;intro w1 hL;simp only[fillX,sTa,sTb]
 go_upto_region 2 with(first|(with_reducible first|refine lld hL ?_|((first|refine lbx hL ?_|refine lal hL ?_|refine lbs hL ?_);clear hL;intro bl w1 hL)|(refine lst' hL ?_;clear hL;intro w1 hL)))
 refine draw_begin [19,20,21,22,23,24,25,26,27,28,29,30,2] ?_
 refine dv0 ?_
 refine dv1 0 ?_
 refine dv1 1 ?_
 refine dv1 2 ?_
 refine dv1 3 ?_
 refine dv0 ?_
 refine dv1 5 ?_
 refine dv1 6 ?_
 refine dv1 7 ?_
 refine dv1 8 ?_
 refine dv2 4 9 ?_
 apply draw_val
 ·intro g w hb y;replace hL:=hL.grow hb;have d10:=yv y 10;clear y;simp only[fillD,fLa,fLb,sTa,sTb];simp only[d10]
  refine loc_loadB HI.out hL rfl rfl ?_
  exact cY
 simp only[apN,apC]
 apply draw_ptr
 ·intro g w hb y;replace hL:=hL.grow hb;clear y;simp only[fillD,fLa,fLb,sTa,sTb]
  go_wp2
  exact⟨rfl,_,rfl,(Below.refl _ _).alloc (Nat.le_refl _) _,_,hb.size,rfl,heap_new _ _⟩
 simp only[apN,apC]
 refine draw_end hL (by kernel_rfl) (by kernel_rfl) ?_
 intro g w2 hb hR;simp only[List.length_cons,List.length_nil,Nat.reduceAdd]at hR
 have e0:=yv hR 0
 have e1:=yv hR 1
 have e2:=yv hR 2
 have e3:=yv hR 3
 have e4:=yv hR 4
 have e5:=yv hR 5
 have e6:=yv hR 6
 have e7:=yv hR 7
 have e8:=yv hR 8
 have e9:=yv hR 9
 have e10:=yv hR 10
 have e11:=yv hR 11
 obtain⟨b12,p12,e12,c12⟩:=rat_ptr (allR_get hR (j:=12) (by decide)) rfl rfl
 clear hR;simp only[fillD,fLa,fLb,sTa,sTb]
 simp only[e0,e1,e2,e3,e4,e5,e6,e7,e8,e9,e10,e11,e12]
 clear e0 e1 e2 e3 e4 e5 e6 e7 e8 e9 e10 e11 e12
 replace hL:=hL.gain hb p12 c12
 clear p12 c12
 clear hb
 clear HI
 go_upto_region 31 with(first|(with_reducible first|refine lld hL ?_|((first|refine lbx hL ?_|refine lal hL ?_|refine lbs hL ?_);clear hL;intro bl w1 hL)|(refine lst' hL ?_;clear hL;intro w1 hL))|(go_at_call 93;refine(field_yes w0 bm gv gt gf ⟨pv,pf,some ⟨bc,oc,none⟩,pn,pcap⟩ ins (k:Int) vn vc tn tc fn fc rk rl re cs cst csf (_::(Rl++(Ra++Rb))) ⟨_,_,_,_,_,_⟩ a kk f _ (hL.perm (perm_rot _ _ _ _ _ _)) ⟨rfl,rfl⟩ ha1 hk1 hf1 HA.out HTH.out).mono ?_;rintro e w3 ⟨rfl,hL2⟩;replace hL:=hL2;clear hL2;dsimp only))
 clear HA HTH HPut HBack HM HFE
 refine draw_begin [155,156,157,158,159,160,161,162,163,164,165] ?_
 refine dv0 ?_
 refine dv0 ?_
 refine dv1 1 ?_
 refine dv1 2 ?_
 refine dv1 3 ?_
 refine dv1 4 ?_
 refine dv0 ?_
 refine dv1 6 ?_
 refine dv2 5 7 ?_
 apply draw_val
 ·intro g w hb y;replace hL:=hL.grow hb;have d8:=yv y 8;clear y;simp only[fillD,fLa,fLb,sTa,sTb];simp only[d8]
  refine loc_load hL rfl rfl cIn HB.out ?_
  exact cY
 simp only[apN,apC]
 refine dv1 0 ?_
 refine dnd hL ?_
 clear hL;intro w5 hL;simp only[fillX,sTa,sTb]
 clear HB
 go_wp2_with (first|(refine loc_store (b:=gf) (off:=f*2) (vs:=vb.cells) (cs':=spliced csf (f*2) vb.cells) hL rfl rfl cIn rfl tValue.sz rfl HLen3.out rfl ?_;clear hL;intro w' hL)|(with_reducible first|refine lld hL ?_|((first|refine lbx hL ?_|refine lal hL ?_|refine lbs hL ?_);clear hL;intro bl w1 hL)|(refine lst' hL ?_;clear hL;intro w1 hL)))
 (try simp only[Exit.inBlock,Exit.then]);(first|refine end0 rfl rfl ?_|refine ret0 rfl rfl ?_)
 have h:=HM2.out vb _ (hL.drop (List.Sublist.cons_cons _ (.cons_cons _ (.cons_cons _ (.cons_cons _ (List.sublist_cons_self _ _))))) (fun _ h=>h))
 rw[HBV.out]at h
 exact⟨rfl,h⟩
end Go.Proofs.YtplcndmdkabmeaaGreatDoor
set_option linter.unusedSimpArgs false
set_option linter.unusedVariables false
set_option maxRecDepth 100000
namespace Go.Proofs.YtplcndmdkabmeaaGreatDoor
open Go.RowKit
def stepI (p:Pg) (ins:Sl) (xs:Nat→Int) (i:Ins) (s:Rs):Rs:=
 if i.kind=1 then s.set i.to.toNat ⟨1,i.n⟩
 else if i.kind=2 then s.set i.to.toNat (truthV (i.n==1))
 else if i.kind=3 then s.set i.to.toNat dV
 else if i.kind=4 then s.set i.to.toNat (s.val i.a.toNat)
 else if i.kind≤8 then countS i.kind i.to.toNat i.a.toNat i.b.toNat s
 else if i.kind=9 then s.set i.to.toNat (truthV (sameB (s.val i.a.toNat) (s.val i.b.toNat)))
 else if i.kind=10 then s.set i.to.toNat (truthV (!countsV (s.val i.a.toNat)))
 else if i.kind=11 then createS i.to.toNat p.fields.toNat s
 else if i.kind=12 then (if (s.val i.a.toNat).kind=3 then s.set i.to.toNat (s.field (s.val i.a.toNat).n.toNat i.n.toNat) else { s with ending:=2 })
 else if i.kind=13 then (if (s.val i.a.toNat).kind=3 then putS (s.val i.a.toNat).n.toNat i.n.toNat (s.val i.b.toNat) s else { s with ending:=2 })
 else if i.kind=14 then takeS i i.to.toNat ins xs s
 else onwardS i.kind i.goto i.a.toNat s
def stepM (p:Pg) (is:Nat→Ins) (ins:Sl) (xs:Nat→Int) (s:Rs):Rs:=if s.at'=p.n then { s with ending:=1 } else stepI p ins xs (is s.at'.toNat) s
def stepS (p:Pg) (is:Nat→Ins) (ins:Sl) (xs:Nat→Int) (s:Rs):Rs:=if s.ending=0 then stepM p is ins xs s else s
structure RightS (p:Pg) (s:Rs):Prop where
 a:0≤s.at'∧s.at'≤p.n
 nv:(s.vars.length:Int)=p.vars
 nt:s.things.length≤100
 nf:∀ k,k<s.things.length→((s.thing k).2.length:Int)=p.fields
 vals:∀ k,k<s.vars.length→isValue (s.val k) s.things.length=true
 fvals:∀ k,k<s.things.length→∀ j,j<(s.thing k).2.length→isValue (s.field k j) s.things.length=true
 tk:0≤s.taken∧s.taken≤9223372036854775807
structure ValidV (v:Vl) (n:Nat):Prop where
 k:0≤v.kind∧v.kind≤3
 z:v.kind=0→v.n=0
 i:v.kind=1→Num32 v.n
 t:v.kind=2→0≤v.n∧v.n≤1
 th:v.kind=3→0≤v.n∧v.n<n
theorem valid_of {v:Vl}{n:Nat}(h:isValue v n=true):ValidV v n:=by
 obtain⟨k,m⟩:=v
 unfold isValue at h
 dsimp only at h
 split at h
 ·rename_i h1;subst h1
  have:m=0:=by simpa using h
  exact⟨by simp,fun _=>this,fun h=>(by simp at h),fun h=>(by simp at h),fun h=>(by simp at h)⟩
 split at h
 ·rename_i h1;subst h1
  have:-2147483648≤m∧m≤2147483647:=by simpa [betw] using h
  exact⟨by simp,fun h=>(by simp at h),fun _=>this,fun h=>(by simp at h),fun h=>(by simp at h)⟩
 split at h
 ·rename_i h1;subst h1
  have:0≤m∧m≤1:=by simpa [betw] using h
  exact⟨by simp,fun h=>(by simp at h),fun h=>(by simp at h),fun _=>this,fun h=>(by simp at h)⟩
 split at h
 ·rename_i h1;subst h1
  have:0≤m∧m≤n - 1:=by simpa [betw] using h
  exact⟨by simp,fun h=>(by simp at h),fun h=>(by simp at h),fun h=>(by simp at h),fun _=>⟨this.1,by show m<n;omega⟩⟩
 ·cases h
theorem ValidV.small {v:Vl}{n:Nat}(h:ValidV v n) (hn:n≤100):-9223372036854775808≤v.n∧v.n≤9223372036854775807:=by
 have h1:=h.k
 have h2:=h.z
 have h3:=h.i
 have h4:=h.t
 have h5:=h.th
 unfold Num32 at h3
 have:v.kind=0∨v.kind=1∨v.kind=2∨v.kind=3:=by omega
 rcases this with e|e|e|e
 ·have:=h2 e;omega
 ·have:=h3 e;omega
 ·have:=h4 e;omega
 ·have:=h5 e;omega
theorem fits_of {p:Pg}{s:Rs}(h:RightS p s) (hp:Small p) (hl:s.lines.length*16≤140737488351232):Fits s:=by
 refine⟨by have:=h.nv;have:=hp.v2;omega,h.nt,fun k=>?_,hl⟩
 by_cases hk:k<s.things.length
 ·have:=h.nf k hk;have:=hp.f2;omega
 ·simp[Rs.thing,List.getD_eq_getElem?_getD,List.getElem?_eq_none (Nat.le_of_not_lt hk),dT]
end Go.Proofs.YtplcndmdkabmeaaGreatDoor
