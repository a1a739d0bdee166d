/-  -/
import Derived.Test.YteoilpcbekijlaaGreatDoorOpenPics
set_option linter.unusedSimpArgs false
set_option linter.unusedVariables false
set_option maxRecDepth 100000
set_option maxHeartbeats 4000000
namespace Go.Proofs.YteoilpcbekijlaaGreatDoor
open Go.RowKit
theorem Loc.turnN {w0 w:World}{L:List LBlk}(h:Loc w0 w L []) {r:Nat}(hr:w0.heap.size≤r) {o' : Obj}(ho:¬ IsCells w r):Loc w0 (w.putObj r o') L []:=
 ((h.pure (S:=PicsD [] []) (fun w k hk=>absurd hk (Nat.not_lt_zero k))).turnL hr ho).drop (List.Sublist.refl _) (fun _ h=>by cases h)
abbrev DefD (D:Nat):Datum:=fun w=>w.heap[D]? = some (.deferred (some []))
theorem Loc.defer {w0 w:World}{L:List LBlk}(h:Loc w0 w L []) {D:Nat}(hr:w0.heap.size≤D) (hK:w.heap[D]? = some (.deferred (some []))):Loc w0 w L [DefD D]:=by
 refine⟨h.below,h.nodup,h.ids,h.cells,fun S hS=>?_⟩
 rw[List.mem_singleton.1 hS]
 refine⟨fun b=>b=D,fun b hb=>⟨⟨by rw[hb];exact heap_lt hK,by rw[hb];exact hr⟩,fun e he heb=>?_⟩,fun w' hw'=>(hw' D rfl).trans hK⟩
 have h1:=h.cells e he
 rw[heb,hb,hK]at h1
 cases h1
theorem results2 {P:Program}{w:World}{tmps:Array Value}{fn:Func}{r s:ResultVar}{v u:Value}(hr:fn.results=#[r,s]) (h:ResV P w tmps r v) (k:ResV P w tmps s u):(results fn tmps).run P w=.ok (.tuple #[v,u]) w:=by
 rw[results_eq,hr];simp[h.run,k.run]
abbrev nxF (l:List Pd):Nat→Int × Pd→Bool→Bool:=fun _ d s=>s&&insideP d.2 (l.getD d.1.toNat nonePd)
theorem foldl_all (l:List Pd) (i:Nat):∀ (es:List (Int × Pd)) (s:Bool),es.foldl (fun s d=>nxF l i d s) s=(s&&es.all fun x=>insideP x.2 (l.getD x.1.toNat nonePd))
 | [],s=>by simp
 | x::es,s=>by rw[List.foldl_cons,foldl_all l i es,List.all_cons,Bool.and_assoc]
theorem allEdges_all (is:Nat→Ins) (l:List Pd):∀ k:Nat,allEdges is (nxF l) (fun _=>l) k true=fitsE is k l
 | 0=>rfl
 | k+1=>by
  rw[allEdges_next,allEdges_all is l k]
  unfold stepAt edgesOf
  rw[foldl_all]
  unfold fitsE
  rw[List.range_succ,List.all_append]
  simp
theorem region_inB {P:Program}{n:Nat}{r:Option Nat}{a:Act}{w:World}{Q:Exit→Act→World→Prop}{id:Nat}{l:List Oper}(h:wpList P l.toArray Q l a w) (hd:l.all (fun o=>!laterB o)=true:=by decide) (hq:¬ LetsOut Q:=by(rintro⟨_,_,h,_⟩;cases h)):(Code.region id l.toArray false).wpIn (inR r) n P Q a w:=region_in hd hq h
theorem draw_inB {P:Program}{n:Nat}{r:Option Nat}{a:Act}{w:World}{Q:Exit→Act→World→Prop}{id:Nat}{ops:Array Oper}(h:AnyOrder P ops Q a w) (hd:ops.toList.all (fun o=>!laterB o)=true:=by decide) (hq:¬ LetsOut Q:=by(rintro⟨_,_,h,_⟩;cases h)):(Code.region id ops true).wpIn (inR r) n P Q a w:=draw_in hd hq h
theorem fits_ok (p:Pg) (is:Nat→Ins) (nv nf:Nat) (hv:p.vars=nv) (hf:p.fields=nf) (s:Sl) (l:List Pd) (hp:checkProg p is=0) (w:World) (hc:CodeAt w p is) (hg:PicsL w s l) (hl:s.n=p.n+1) (hr:∀ k,k≤p.n→rightP p is (l.getD k nonePd)=0):
  Calls Tryz.prog 27 #[p.v,.slice s.p s.n s.cap] w fun e w'=>e=.returned (.tuple #[.bool (fitsS is p.n l (firstP nv nf p.n)),.int .i64 0])∧Below w.heap.size w w':=by
 refine(callsIn_wide (n:=2)).1 ?_
 refine callsIn_of_wp_marks Tryz.func27 rfl trivial ?_ rfl
 simp only[Tryz.ntmps27,List.size_toArray,List.length_cons,List.length_nil,Nat.reduceAdd,Nat.reduceSub,Array.replicate_succ,Array.replicate_zero,List.push_toArray,List.append_toArray,List.nil_append,List.cons_append]
 have hs:=(prog_right hp).1
 have h1:=hs.v2
 have h2:=hs.f2
 have h60:=hs.n1
 have hk:=fun w' (hb:Below w.heap.size w w')=>codeCheck_any p is w' (hc.grow hb) (by omega)
 rw[hp]at hk
 have HK:=Lib.hid hk
 obtain⟨xs,hx,hpc⟩:=hg.ex
 obtain⟨b,o,hpp,hcc⟩:=hx.ex
 have hln:=hg.n
 have hg0:=hg
 obtain⟨sp,sn,sc⟩:=s
 dsimp only at hpp hcc hpc hl hln hg0 ⊢
 clear hx hg
 have hfr:=first_right (p:=p) (is:=is) hv hf
 have HF:=Lib.hid (fun w'=>first_any p nv nf hv hf (by omega) (by omega) (by omega) w')
 have HBM:=Lib.hid (right_len hp hfr)
 obtain rfl:=hpp (by omega)
 have HC:=Lib.hid (fun k (hk:k≤p.n)=>ReadsAt.agg (P:=Tryz.prog) tPic (hcc k (by omega)).1 (hcc k (by omega)).2 rfl)
 have HG:=Lib.hid (fun k (hk:k<sn) w' (hb:Below w.heap.size w w')=>(show Calls Tryz.prog 62 #[p.v,(xs k).v] w' fun e w2=>e=.returned (.int .i64 0)∧Below w'.heap.size w' w2 by
  have h:=picRight_any p is (xs k) (l.getD k nonePd) w' h60 (hc.grow hb) ((hpc k hk).grow hb)
  rw[hr k (by omega)]at h
  exact h))
 have HIN:=Lib.hid (fun x d k w' (hw:Below w.heap.size w w') (hx:PicIs w' x d) (hk:k≤p.n)=>pinside_any x (xs k) d (l.getD k nonePd) w' hx ((hpc k (by omega)).grow hw))
 have HQ:=Lib.hid (show fitsS is p.n l (firstP nv nf p.n)=(fitsE is p.n l&&insideP (firstP nv nf p.n) (l.getD 0 nonePd)) from rfl)
 have hne:((sn:Int) != (p.n:Int)+1)=false:=by rw[hl];simp
 have HS0:=Lib.hid hg0
 have HPC:=Lib.hid hc
 have HP:=Lib.hid hp
 have HRR:=Lib.hid hr
 have HSN:=Lib.hid hl
 have HPP:=Lib.hid hpc
 have hnw:wrap64 ((p.n:Int)+1)=(p.n:Int)+1:=by unfold wrap64;omega
 have hm:sn≤61:=by omega
 clear hs hpp hcc h1 h2 hfr hk hg0 hc hr hln hl hp hpc
 generalize firstP nv nf p.n=f0 at *
 obtain⟨pv,pf,pp,pn,pc⟩:=p
 dsimp only at *
 subst hv hf
 show Code.wpIn (inR none) _ _ _ _ _ _
 have hL:=Loc.start w
 iterate 2 gi_step
 refine region_in ?hd0 ?hq0 ?hw0
 case hd0=>decide
 case hq0=>rintro⟨_,_,h,_⟩;cases h
 go_wp2_with (first|((with_reducible refine lbx (T:=27) hL ?_);clear hL;intro b2 w1 hL)|((with_reducible refine lbx (T:=64) hL ?_);clear hL;intro b3 w1 hL)|((with_reducible refine lal hL ?_ (hz:=zBoolC));clear hL;intro b4 w1 hL)|((with_reducible refine lal hL ?_ (hz:=zErrnoC));clear hL;intro b5 w1 hL))
 iterate 2 gi_step
 refine region_inB ?_
 go_wp2_with (first|(go_at_call 48;refine(HK.out _ hL.below).mono ?_;rintro e w1 ⟨rfl,hb⟩;replace hL:=hL.grow hb;clear hb;dsimp only)|(with_reducible first|refine lld hL ?_|((first|refine lbx hL ?_|refine lal hL ?_|refine lbs hL ?_);clear hL;intro bl w1 hL)|(refine lst' hL ?_;clear hL;intro w1 hL)))
 gi_step
 refine region_inB ?_
 go_wp2
 iterate 6 gi_step
 refine region_inB ?_
 go_wp2_with (first|(with_reducible first|refine lld hL ?_|((first|refine lbx hL ?_|refine lal hL ?_|refine lbs hL ?_);clear hL;intro bl w1 hL)|(refine lst' hL ?_;clear hL;intro w1 hL)))
 iterate 6 gi_step
 refine region_inB ?_
 go_wp2_with (first|(with_reducible first|refine lld hL ?_|((first|refine lbx hL ?_|refine lal hL ?_|refine lbs hL ?_);clear hL;intro bl w1 hL)|(refine lst' hL ?_;clear hL;intro w1 hL)))
 gi_wp2
 gi_loopw [27] (fun c wr=>∃ k:Nat,k≤sn∧c=.int .i64 k∧Loc w wr [(b5,22,[.int .i64 0]),(b4,4,[.bool false]),(b3,64,[.slice (some ⟨b,o,none⟩) sn sc]),(b2,27,[.int .i64 nv,.int .i64 nf,.slice pp pn pc])] []) (fun c _=>sn+1 - (intOf c).toNat)
 case atStart=>exact⟨0,Nat.zero_le _,rfl,hL⟩
 case round=>
  clear hL
  obtain⟨k,hk,rfl,hL⟩:=hrel
  by_cases hlt:k<sn
  ·have hr:=HC.out k (by have:=HSN.out;omega)
   have hg1:=HG.out k hlt
   have hck:decide ((k:Int)<(sn:Int))=true:=decide_eq_true (by omega)
   generalize xs k=x at hr hg1
   obtain⟨xn,⟨vp,vn,vc⟩,⟨fp,fn,fc⟩⟩:=x
   dsimp only[Pv.v,Pv.cells]at hr hg1
   have HR:=Lib.hid hr
   have HG1:=Lib.hid hg1
   clear hr hg1
   iterate 2 gi_step
   refine region_inB ?_
   go_wp2
   iterate 8 gi_step
   refine region_inB ?_
   go_wp2_with (first|(with_reducible refine ldB HR.out hL ?_)|(with_reducible first|refine lld hL ?_|((first|refine lbx hL ?_|refine lal hL ?_|refine lbs hL ?_);clear hL;intro bl w1 hL)|(refine lst' hL ?_;clear hL;intro w1 hL)))
   gi_step
   refine region_inB ?_
   go_wp2_with (first|(go_at_call 62;refine(HG1.out _ hL.below).mono ?_;rintro e w1 ⟨rfl,hb⟩;replace hL:=hL.grow hb;clear hb;dsimp only)|(with_reducible first|refine lld hL ?_|((first|refine lbx hL ?_|refine lal hL ?_|refine lbs hL ?_);clear hL;intro bl w1 hL)|(refine lst' hL ?_;clear hL;intro w1 hL)))
   gi_step
   refine region_inB ?_
   go_wp2
   gi_wp2
   go_roundw
   case rel=>exact⟨k+1,by omega,by go_num,hL.drop (List.sublist_cons_self _ _) (fun _ h=>h)⟩
   case measure=>simp[intOf];omega
  ·have hck:decide ((k:Int)<(sn:Int))=false:=decide_eq_false (by omega)
   clear HG HK hck
   obtain rfl:sn=k:=by omega
   clear hlt hk
   iterate 2 gi_step
   refine region_inB ?_
   go_wp2
   iterate 8 gi_step
   refine region_inB ?_
   go_wp2_with (first|((with_reducible refine lbx hL ?_);clear hL;intro bs w1 hL)|(with_reducible first|refine lld hL ?_|((first|refine lbx hL ?_|refine lal hL ?_|refine lbs hL ?_);clear hL;intro bl w1 hL)|(refine lst' hL ?_;clear hL;intro w1 hL)))
   iterate 2 gi_step
   refine region_inB ?_
   go_wp2_with (first|(with_reducible first|refine lld hL ?_|((first|refine lbx hL ?_|refine lal hL ?_|refine lbs hL ?_);clear hL;intro bl w1 hL)|(refine lst' hL ?_;clear hL;intro w1 hL)))
   gi_step
   obtain⟨wb,hwb⟩:∃ x,x=w1:=⟨_,rfl⟩
   subst hwb
   have hsz:=hL.size
   have hids:bs<wb.heap.size∧b5<wb.heap.size∧b4<wb.heap.size∧b3<wb.heap.size∧b2<wb.heap.size:=⟨heap_lt (hL.cells (bs,_,_) cMm),heap_lt (hL.cells (b5,_,_) cMm),heap_lt (hL.cells (b4,_,_) cMm),heap_lt (hL.cells (b3,_,_) cMm),heap_lt (hL.cells (b2,_,_) cMm)⟩
   have HALL:=Lib.hid (allEdges_all is l pn)
   have HL0:=Lib.hid hL
   clear hL
   refine range_walk (gf:=63) (fb:=#[.pointer (some ⟨bs,0,none⟩)]) (lb:=#[]) (σ:=Bool) (encs:=EdX.encs) (Need:=fun _=>SolvAt ⟨nv,nf,pp,pn,pc⟩ is bs ⟨some ⟨b,o,none⟩,sn,sc⟩ l) (G:=EdAt ⟨nv,nf,pp,pn,pc⟩ is (fun _:Bool=>l)) (next:=fun s x=>nxF l x.i x.d s) (fin:=allEdges is (nxF l) (fun _=>l) pn) rfl (fun args w=>by kernel_rfl) (fun _=>rfl)
    (edges_in ⟨nv,nf,pp,pn,pc⟩ is HP.out bs ⟨some ⟨b,o,none⟩,sn,sc⟩ (nxF l) (fun _=>l) _ _)
    (fun s W=>s=true∧Loc w W [(bs,116,[.int .i64 nv,.int .i64 nf,.slice pp pn pc,.slice (some ⟨b,o,none⟩) sn sc]),(b5,22,[.int .i64 0]),(b4,4,[.bool false]),(b3,64,[.slice (some ⟨b,o,none⟩) sn sc]),(b2,27,[.int .i64 nv,.int .i64 nf,.slice pp pn pc])] [])
    (fun W=>fitsE is pn l=false∧Loc w W [(bs,116,[.int .i64 nv,.int .i64 nf,.slice pp pn pc,.slice (some ⟨b,o,none⟩) sn sc]),(b5,22,[.int .i64 0]),(b4,4,[.bool false]),(b3,64,[.slice (some ⟨b,o,none⟩) sn sc]),(b2,27,[.int .i64 nv,.int .i64 nf,.slice pp pn pc])] [])
    ?hJ ?hJx ?hN ?hG true ⟨rfl,HL0.out⟩
    (fun x a' W=>∃ b7,w.heap.size≤b7∧a'=⟨#[.agg #[.int .i64 nv,.int .i64 nf,.slice pp pn pc],.slice (some ⟨b,o,none⟩) sn sc,.pointer (some ⟨b2,0,none⟩),.pointer (some ⟨b3,0,none⟩),.pointer (some ⟨b4,0,none⟩),.pointer (some ⟨b5,0,none⟩),.int .i64 0,undef,u8,u9,.pointer (some ⟨bs,0,none⟩),undef,.pointer (some ⟨b7,0,none⟩),.agg #[.int .i64 nv,.int .i64 nf,.slice pp pn pc],.int .i64 0,.int .i64 0,.bool false,undef,.slice (some ⟨b,o,none⟩) sn sc,.int .i64 sn,.pointer (some ⟨b2,2,none⟩),.slice pp pn pc,.int .i64 pn,.int .i64 ((pn:Int)+1),.bool false,.slice (some ⟨b,o,none⟩) sn sc,.int .i64 sn,.int .i64 sn,.bool false,u29,u30,u31,u32,u33,u34,u35,u36,u37,.agg #[.int .i64 nv,.int .i64 nf,.slice pp pn pc],.slice (some ⟨b,o,none⟩) sn sc,.agg #[.int .i64 nv,.int .i64 nf,.slice pp pn pc,.slice (some ⟨b,o,none⟩) sn sc],.pointer (some ⟨bs,0,none⟩),.pointer (some ⟨bs,0,none⟩),.func (.func 63) #[.pointer (some ⟨bs,0,none⟩)] #[],.int .i64 x.i,.agg #[.int .i64 x.e.go,.bool x.e.x.none,.slice x.e.x.vars.p x.e.x.vars.n x.e.x.vars.cap,.slice x.e.x.fields.p x.e.x.fields.n x.e.x.fields.cap],undef,undef,undef,undef,undef,undef,undef,undef,undef,undef,undef,undef,undef,undef,undef],[]⟩∧W.heap[b7]? = some (.cells #[.int .i64 x.e.go,.bool x.e.x.none,.slice x.e.x.vars.p x.e.x.vars.n x.e.x.vars.cap,.slice x.e.x.fields.p x.e.x.fields.n x.e.x.fields.cap] 62 (0,0)))
    ?hAx ?hassign ?hbody ?hdone ?hstop
   case hJ=>
    exact fun s=>⟨fun W W' hb h=>⟨h.1,h.2.grow hb⟩,fun W r r' hr h=>⟨h.1,h.2.turnN (by omega) (fun ⟨_,_,_,hc⟩=>by rw[hr]at hc;cases hc)⟩⟩
   case hJx=>exact⟨fun W W' hb h=>⟨h.1,h.2.grow hb⟩,fun W r r' hr h=>⟨h.1,h.2.turnN (by omega) (fun ⟨_,_,_,hc⟩=>by rw[hr]at hc;cases hc)⟩⟩
   case hN=>
    intro s W h
    have h0:=HS0.out.grow h.2.below
    obtain⟨ys,hy1,hy2⟩:=h0.ex
    exact⟨h.2.cells _ List.mem_cons_self,HPC.out.grow h.2.below,HSN.out,by rw[← h0.n];exact HSN.out,⟨ys,hy1,hy2⟩,HRR.out⟩
   case hG=>exact fun s x=>EdAt.abides
   case hAx=>
    refine fun x a'=>⟨fun W W' hb ⟨b7,h0,h1,h2⟩=>⟨b7,h0,h1,by rw[hb.block _ (heap_lt h2)];exact h2⟩,fun W r r' hr ⟨b7,h0,h1,h2⟩=>⟨b7,h0,h1,?_⟩⟩
    rw[World.putObj_heap_other (fun e=>by rw[e,hr]at h2;cases h2)]
    exact h2
   case hassign=>
    rintro l' s ⟨i,⟨ego,⟨en,⟨ep,evn,ec⟩,⟨efp,efn,efc⟩⟩⟩,dk⟩ W K hs hx hK
    dsimp only[EdX.encs]
    simp only[List.zip_toArray,List.zip_cons_cons,List.zip_nil_left,List.zip_nil_right,List.foldl_toArray,List.foldl_cons,List.foldl_nil,List.setIfInBounds_toArray,List.set_cons_succ,List.set_cons_zero]
    dsimp only at hK ⊢
    have hL:=Loc.start W
    refine region_inA ?_
    go_wp2_with (first|(with_reducible first|refine lld hL ?_|((first|refine lbx hL ?_|refine lal hL ?_|refine lbs hL ?_);clear hL;intro bl w1 hL)|(refine lst' hL ?_;clear hL;intro w1 hL)))
    have h7:W.heap.size≤bl:=hL.ids _ List.mem_cons_self
    have hws:w.heap.size≤W.heap.size:=hs.2.size
    exact hK _ _ hL.below ⟨bl,Nat.le_trans hws h7,rfl,hL.heap cIn⟩
   case hbody=>
    intro l' s x a' W hW hs hx hax
    have hed:=hx.2 (fun _ _=>rfl)
    replace hx:=hx.1
    obtain⟨hft,-⟩:=hx.fits HP.out
    have hgo:=hx.go
    have hpx:=hx.x
    have hxi:=hx.i
    clear hx
    obtain⟨i,⟨ego,⟨en,⟨ep,evn,ec⟩,⟨efp,efn,efc⟩⟩⟩,⟨dg,de⟩⟩:=x
    dsimp only at hft hgo hpx hed hxi
    subst hgo
    obtain⟨t,rfl⟩:∃ t:Nat,ego=t:=⟨ego.toNat,by omega⟩
    have htp:t≤pn:=by omega
    have HNO:=Lib.hid (fun h=>fitsE_no (l:=l) hxi hed (by exact h))
    clear hft hed
    obtain⟨b7,hb7,rfl,h7⟩:=hax
    obtain⟨rfl,hL⟩:=hs
    dsimp only at h7 HNO
    rw[show ((t:Int)).toNat=t from rfl]at HNO
    have hnt:((t:Int)<(sn:Int)):=by have:=HSN.out;omega
    have hrt:=HC.out t htp
    have hpi:=fun w' (hw:Below w.heap.size w w') (hb:Below W.heap.size W w')=>HIN.out ⟨en,⟨ep,evn,ec⟩,⟨efp,efn,efc⟩⟩ de t w' hw (hpx.grow hb) htp
    have hnx:nxF l i ((t:Int),de) true=insideP de (l.getD t nonePd):=by show (true&&insideP de (l.getD ((t:Int)).toNat nonePd))=_;rw[Bool.true_and];rfl
    replace hL:=hL.also7 h7 hb7 (by intro e he;simp only[List.mem_cons,List.not_mem_nil,or_false]at he;rcases he with rfl|rfl|rfl|rfl|rfl<;>(dsimp only;decide))
    replace hL:=hL.kept (B:=wb.heap.size) hsz (by intro e he;simp only[List.mem_cons,List.not_mem_nil,or_false]at he;obtain⟨h1,h2,h3,h4,h5⟩:=hids;rcases he with rfl|rfl|rfl|rfl|rfl<;>assumption)
    generalize insideP de (l.getD t nonePd)=ins at hpi HNO hnx
    generalize xs t=xt at hrt hpi
    obtain⟨xn,⟨xp,xvn,xc⟩,⟨xfp,xfn,xfc⟩⟩:=xt
    dsimp only[Pv.v,Pv.cells]at hrt hpi
    have HRT:=Lib.hid hrt
    have HPI:=Lib.hid hpi
    have HNX:=Lib.hid hnx
    clear hrt hpi hnx hpx h7 hids
    simp only[Nat.reduceSub]
    iterate 3 gi_step
    refine draw_inA ?_
    refine draw_beginI [46,47,48,49,50,51,52,53,54] ?_
    refine dv0 ?_
    refine dv1 0 ?_
    refine dv0 ?_
    refine dv0 ?_
    refine dv1 3 ?_
    refine dv2 2 4 ?_
    apply draw_val
    ·intro g w hb y;replace hL:=hL.grow hb;have d5:=yv y 5;clear y;simp only[fillD,fLa,fLb,sTa,sTb];simp only[d5]
     refine loc_loadB HRT.out hL rfl rfl ?_
     exact cY
    simp only[apN,apC]
    apply draw_val
    ·intro g w hb y;replace hL:=hL.grow hb;have d1:=yv y 1;have d6:=yv y 6;clear y;simp only[fillD,fLa,fLb,sTa,sTb];simp only[d1,d6]
     go_wp2_with (go_at_call 64;refine(HPI.out _ hL.below hb).mono ?_;rintro e w3 ⟨rfl,hb3⟩;dsimp only)
     exact⟨rfl,_,rfl,hb3,rfl⟩
    simp only[apN,apC]
    refine dv1 7 ?_
    refine draw_endI hL (by kernel_rfl) (by kernel_rfl) ?_
    intro g w2 hb hR;simp only[List.length_cons,List.length_nil,Nat.reduceAdd]at hR
    have e0:=yv hR 0
    have e1:=yv hR 1
    have e2:=yv hR 2
    have e3:=yv hR 3
    have e4:=yv hR 4
    have e5:=yv hR 5
    have e6:=yv hR 6
    have e7:=yv hR 7
    have e8:=yv hR 8
    clear hR;simp only[fillD,fLa,fLb,sTa,sTb]
    simp only[e0,e1,e2,e3,e4,e5,e6,e7,e8]
    clear e0 e1 e2 e3 e4 e5 e6 e7 e8
    replace hL:=hL.grow hb
    clear hb
    clear HPI HRT
    cases ins with
    | true=>
     go_wp2
     gi_wp2
     (try simp only[Exit.then,Exit.inBlock,↓reduceIte])
     refine⟨⟨?_,hL.drop (List.Sublist.refl _) (fun _ h=>by cases h)⟩,(hL.get (S:=KeptD wb.heap.size W) cMm).keep (by omega)⟩
     exact HNX.out
    | false=>
     have HF0:=Lib.hid (HNO.out rfl)
     go_wp2
     iterate 2 gi_step
     refine region_inA ?_
     go_wp2_with (first|(with_reducible first|refine lld hL ?_|((first|refine lbx hL ?_|refine lal hL ?_|refine lbs hL ?_);clear hL;intro bl w1 hL)|(refine lst' hL ?_;clear hL;intro w1 hL)))
     gi_wp2
     (try simp only[Exit.then,Exit.inBlock,↓reduceIte])
     exact⟨⟨HF0.out,hL.drop (List.Sublist.refl _) (fun _ h=>by cases h)⟩,(hL.get (S:=KeptD wb.heap.size W) cMm).keep (by omega)⟩
   case hstop=>
    rintro D W hD ⟨hf,hL⟩ hK
    have hL2:=hL.turnN (r:=D) (o':=.deferred none) (by omega) (fun ⟨_,_,_,hc2⟩=>by rw[hK]at hc2;cases hc2)
    have HF0:=Lib.hid hf
    clear hL hf
    (try simp only[Exit.then,Exit.inBlock,↓reduceIte])
    refine⟨by simp,.inl ⟨_,_,rfl,run_takeDeferred hK,?_⟩⟩
    refine⟨_,results2 rfl (resCell hL2 rfl cIn (Reads.cell tBool rfl)) (resCell hL2 rfl cIn (Reads.cell tErrno rfl)),?_,hL2.below⟩
    rw[HQ.out,HF0.out,Bool.false_and]
   case hdone=>
    rintro D W hD ⟨hf,hL⟩ hK
    rw[HALL.out]at hf
    have HE:=Lib.hid hf
    have hDs:D<W.heap.size:=heap_lt hK
    have hL':=hL.defer (by omega) hK
    clear hL hf hK
    have hL:=hL'
    clear hL'
    have HR0:=Lib.hid (HC.out 0 (Nat.zero_le _))
    have HI0:=Lib.hid (fun x w' (hw:Below w.heap.size w w') (hx:PicIs w' x f0)=>HIN.out x f0 0 w' hw hx (Nat.zero_le _))
    rw[Nat.zero_mul,Nat.add_zero]at HR0
    generalize insideP f0 (l.getD 0 nonePd)=i0 at HQ HI0
    generalize xs 0=x0 at HR0 HI0
    obtain⟨x0n,⟨x0p,x0vn,x0c⟩,⟨x0fp,x0fn,x0fc⟩⟩:=x0
    dsimp only[Pv.v,Pv.cells]at HR0 HI0
    have hn0:((0:Int)<(sn:Int)):=by have:=HSN.out;omega
    iterate 3 gi_step
    refine draw_inB ?_
    obtain⟨wq,hwq⟩:∃ x,x=W:=⟨_,rfl⟩
    subst hwq
    refine draw_beginI [55,56,57,58,59,60] ?_
    refine dv0 ?_
    refine draw_next (PicQr wq f0) PicQr.stable ?_ ?_
    ·intro g w hb y;replace hL:=hL.grow hb;have d0:=yv y 0;clear y;simp only[fillD,fLa,fLb,sTa,sTb];simp only[d0]
     go_wp2_with (go_at_call 65;refine(HF.out _).mono ?_;rintro q w4 ⟨r,rfl,hG⟩;dsimp only)
     exact⟨rfl,_,rfl,hG.below,r,rfl,Loc.since hb ((Loc.start _).gotP hG HBM.out)⟩
    simp only[apN,apC]
    refine dv0 ?_
    refine dv1 2 ?_
    apply draw_val
    ·intro g w hb y;replace hL:=hL.grow hb;have d3:=yv y 3;clear y;simp only[fillD,fLa,fLb,sTa,sTb];simp only[d3]
     refine loc_loadB HR0.out hL rfl rfl ?_
     exact cY
    simp only[apN,apC]
    apply draw_val
    ·intro g w hb y;replace hL:=hL.grow hb;have d1:(PicQr wq f0) (g 56) w:=yr y 1;obtain⟨r,d1,hG⟩:=d1;have d4:=yv y 4;clear y;simp only[fillD,fLa,fLb,sTa,sTb];simp only[d1,d4]
     go_wp2_with (go_at_call 64;refine(HI0.out r _ hL.below (hG.get (S:=fun w=>PicIs w r f0) List.mem_cons_self)).mono ?_;rintro e w3 ⟨rfl,hb3⟩;dsimp only)
     exact⟨rfl,_,rfl,hb3,rfl⟩
    simp only[apN,apC]
    refine draw_endI hL (by kernel_rfl) (by kernel_rfl) ?_
    intro g w2 hb hR;simp only[List.length_cons,List.length_nil,Nat.reduceAdd]at hR
    have e0:=yv hR 0
    have e1:(PicQr wq f0) (g 56) w2:=yr hR 1
    obtain⟨r1,e1,-⟩:=e1
    have e2:=yv hR 2
    have e3:=yv hR 3
    have e4:=yv hR 4
    have e5:=yv hR 5
    clear hR;simp only[fillD,fLa,fLb,sTa,sTb]
    simp only[e0,e1,e2,e3,e4,e5]
    clear e0 e1 e2 e3 e4 e5
    replace hL:=hL.grow hb
    clear hb
    go_wp2_with (first|(with_reducible first|refine lld hL ?_|((first|refine lbx hL ?_|refine lal hL ?_|refine lbs hL ?_);clear hL;intro bl w1 hL)|(refine lst' hL ?_;clear hL;intro w1 hL)))
    gi_wp2
    have hK:=hL.get (S:=DefD D) cMm
    have hL2:=(hL.drop (D':=[]) (List.Sublist.refl _) (fun _ h=>by cases h)).turnN (r:=D) (o':=.deferred none) (by omega) (fun ⟨_,_,_,hc2⟩=>by rw[hK]at hc2;cases hc2)
    clear hL
    refine⟨by simp,.inl ⟨_,_,rfl,run_takeDeferred hK,?_⟩⟩
    refine⟨_,results2 rfl (resCell hL2 rfl cIn (Reads.cell tBool rfl)) (resCell hL2 rfl cIn (Reads.cell tErrno rfl)),?_,hL2.below⟩
    rw[HQ.out,HE.out,Bool.true_and]
end Go.Proofs.YteoilpcbekijlaaGreatDoor
