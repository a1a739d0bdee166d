/-  -/
import Derived.Test.YteoilpcbekijlaaGreatDoorSolF
import Derived.Test.YteoilpcbekijlaaGreatDoorRangeW
set_option linter.unusedSimpArgs false
set_option linter.unusedVariables false
set_option maxRecDepth 100000
set_option maxHeartbeats 2000000
namespace Go.Proofs.YteoilpcbekijlaaGreatDoor
open Go.RowKit
structure PicsL (w:World) (s:Sl) (l:List Pd):Prop where
 n:s.n=l.length
 m:s.n≤9223372036854775807
 ex:∃ xs:Nat→Pv,ListC w 3 s.p s.n (fun k=>(xs k).cells)∧∀ k,k<s.n→PicIs w (xs k) (l.getD k nonePd)
theorem PicsL.grow {w w' : World}{s:Sl}{l:List Pd}(h:PicsL w s l) (hb:Below w.heap.size w w'):PicsL w' s l:=by
 obtain⟨h1,h2,xs,h3,h4⟩:=h
 exact⟨h1,h2,xs,h3.grow hb,fun k hk=>(h4 k hk).grow hb⟩
theorem GotPs.is {w w' : World}{s:Sl}{l:List Pd}(h:GotPs w w' s l):PicsL w' s l:=by
 obtain⟨xs,R,hl,hR,hL⟩:=h
 have hn:=hR.flatlen lenP3 (by decide)
 obtain⟨_,h2⟩:=hR.listC lenP3 zeroPv (by decide) hL.own
 have hp:=hL.get (S:=PicsD xs l) List.mem_cons_self
 exact⟨by rw[hn,hl],hR.max,fun k=>xs.getD k zeroPv,h2,fun k hk=>hp k (by omega)⟩
theorem PicsL.at' {w:World}{s:Sl}{l:List Pd}(h:PicsL w s l):∃ xs:Nat→Pv,PicsAt w s.p s.n xs (fun k=>l.getD k nonePd):=by
 obtain⟨_,h2,xs,h3,h4⟩:=h
 exact⟨xs,h3,h4,h2⟩
def fitsE (is:Nat→Ins) (pn:Nat) (l:List Pd):Bool:=(List.range pn).all fun i=>(rawD is i (l.getD i nonePd)).es.all fun x=>insideP x.2 (l.getD x.1.toNat nonePd)
def fitsS (is:Nat→Ins) (pn:Nat) (l:List Pd) (f:Pd):Bool:=fitsE is pn l&&insideP f (l.getD 0 nonePd)
theorem fitsE_iff {is:Nat→Ins}{pn:Nat}{l:List Pd}:fitsE is pn l=true↔∀ i,i<pn→∀ x∈(rawD is i (l.getD i nonePd)).es,insideP x.2 (l.getD x.1.toNat nonePd)=true:=by
 unfold fitsE
 rw[List.all_eq_true]
 refine⟨fun h i hi x hx=>?_,fun h i hi=>?_⟩
 ·exact List.all_eq_true.1 (h i (List.mem_range.2 hi)) x hx
 ·exact List.all_eq_true.2 (h i (List.mem_range.1 hi))
theorem fitsE_no {is:Nat→Ins}{pn:Nat}{l:List Pd}{i:Nat}(hi:i<pn) {x:Int × Pd}(hx:x∈(rawD is i (l.getD i nonePd)).es) (h:insideP x.2 (l.getD x.1.toNat nonePd)=false):fitsE is pn l=false:=by
 cases hf:fitsE is pn l with
 | false=>rfl
 | true=>rw[fitsE_iff.1 hf i hi x hx]at h;cases h
abbrev rightsE (p:Pg) (is:Nat→Ins) (l:List Pd):Int:=errs 0 (fun k=>rightP p is (l.getD k nonePd)) l.length
theorem rights_of {p:Pg}{is:Nat→Ins}{l:List Pd}(h:rightsE p is l=0):∀ k,k<l.length→rightP p is (l.getD k nonePd)=0:=by
 have h2:∀ n,errs 0 (fun k=>rightP p is (l.getD k nonePd)) n=0→∀ k,k<n→rightP p is (l.getD k nonePd)=0:=by
  intro n
  induction n with
  | zero=>intro _ k hk;exact absurd hk (Nat.not_lt_zero k)
  | succ n ih=>
   intro h k hk
   have h0:errs 0 (fun k=>rightP p is (l.getD k nonePd)) n=0:=by
    apply Classical.byContradiction
    intro hne
    rw[errs,if_pos hne]at h
    exact hne h
   rcases Nat.lt_or_ge k n with h3|h3
   ·exact ih h0 k h3
   ·obtain rfl:k=n:=by omega
    rw[errs_next h0]at h
    exact h
 exact h2 _ h
theorem fits_prog (p:Pg) (is:Nat→Ins) (s:Sl) (w:World) (hn:p.n≤9223372036854775807) (hc:CodeAt w p is) (hq:checkProg p is≠0):
  Calls Tryz.prog 27 #[p.v,.slice s.p s.n s.cap] w fun e w'=>e=.returned (.tuple #[.bool false,.int .i64 (checkProg p is)])∧Below w.heap.size w w':=by
 have HK:=Lib.hid (fun w' (hb:Below w.heap.size w w')=>codeCheck_any p is w' (hc.grow hb) hn)
 generalize checkProg p is=c at hq HK ⊢
 have hne:(c != 0)=true:=bne_iff_ne.2 hq
 clear hq hc hn
 obtain⟨sp,sn,sc⟩:=s
 have hL:=Loc.start w
 go_enter Tryz.func27,Tryz.ntmps27
 go_wp2_with (first|((with_reducible refine lal hL ?_ (hz:=zBoolC));clear hL;intro b4 w1 hL)|((with_reducible refine lal hL ?_ (hz:=zErrnoC));clear hL;intro b5 w1 hL)|(with_reducible first|refine lld hL ?_|((first|refine lbx hL ?_|refine lal hL ?_|refine lbs hL ?_);clear hL;intro bl w1 hL)|(refine lst' hL ?_;clear hL;intro w1 hL))|(go_at_call 48;refine(HK.out _ hL.below).mono ?_;rintro e w1 ⟨rfl,hb⟩;replace hL:=hL.grow hb;clear hb;dsimp only))
 (try simp only[Exit.inBlock,Exit.then]);refine rt2 ?_
 exact⟨rfl,hL.below⟩
theorem fits_form (p:Pg) (is:Nat→Ins) (s:Sl) (w:World) (hn:p.n≤9223372036854775807) (hc:CodeAt w p is) (hq:checkProg p is=0) (hl:s.n≠p.n+1):
  Calls Tryz.prog 27 #[p.v,.slice s.p s.n s.cap] w fun e w'=>e=.returned (.tuple #[.bool false,.int .i64 1])∧Below w.heap.size w w':=by
 have hk:=fun w' (hb:Below w.heap.size w w')=>codeCheck_any p is w' (hc.grow hb) hn
 rw[hq]at hk
 have HK:=Lib.hid hk
 have hs:=(prog_right hq).1.n1
 have hne:((s.n:Int) != (p.n:Int)+1)=true:=by rw[bne_iff_ne];omega
 clear hq hc hn hk hl
 obtain⟨sp,sn,sc⟩:=s
 dsimp only at hne
 have hL:=Loc.start w
 go_enter Tryz.func27,Tryz.ntmps27
 go_wp2_with (first|((with_reducible refine lal hL ?_ (hz:=zBoolC));clear hL;intro b4 w1 hL)|((with_reducible refine lal hL ?_ (hz:=zErrnoC));clear hL;intro b5 w1 hL)|(with_reducible first|refine lld hL ?_|((first|refine lbx hL ?_|refine lal hL ?_|refine lbs hL ?_);clear hL;intro bl w1 hL)|(refine lst' hL ?_;clear hL;intro w1 hL))|(go_at_call 48;refine(HK.out _ hL.below).mono ?_;rintro e w1 ⟨rfl,hb⟩;replace hL:=hL.grow hb;clear hb;dsimp only))
 (try simp only[Exit.inBlock,Exit.then]);refine rt2 ?_
 exact⟨rfl,hL.below⟩
theorem fits_pic (p:Pg) (is:Nat→Ins) (s:Sl) (l:List Pd) (w:World) (hn:p.n≤9223372036854775807) (hc:CodeAt w p is) (hg:PicsL w s l) (hq:checkProg p is=0) (hl:s.n=p.n+1) (hr:rightsE p is l≠0):
  Calls Tryz.prog 27 #[p.v,.slice s.p s.n s.cap] w fun e w'=>e=.returned (.tuple #[.bool false,.int .i64 (rightsE p is l)])∧Below w.heap.size w w':=by
 have hk:=fun w' (hb:Below w.heap.size w w')=>codeCheck_any p is w' (hc.grow hb) hn
 rw[hq]at hk
 have HK:=Lib.hid hk
 have hs:=(prog_right hq).1.n1
 obtain⟨xs,hx,hp⟩:=hg.ex
 obtain⟨b,o,hpp,hcc⟩:=hx.ex
 have HP:=Lib.hid hpp
 have HC:=Lib.hid hcc
 have HG:=Lib.hid (fun k hk w' (hb:Below w.heap.size w w')=>picRight_any p is (xs k) (l.getD k nonePd) w' hs (hc.grow hb) ((hp k hk).grow hb))
 have HLN:=Lib.hid hg.n
 have HNE:=Lib.hid hr
 have hne:((s.n:Int) != (p.n:Int)+1)=false:=by rw[hl];simp
 have hm:s.n≤61:=by omega
 clear hq hc hn hk hr hx hp hpp hcc hg hl
 obtain⟨sp,sn,sc⟩:=s
 dsimp only at hne hm HP HC HG HLN
 have hnw:wrap64 ((p.n:Int)+1)=(p.n:Int)+1:=by have:=hs;unfold wrap64;omega
 have hL:=Loc.start w
 go_enter Tryz.func27,Tryz.ntmps27
 go_step
 go_step
 go_step
 ((with_reducible refine lbx hL ?_);clear hL;intro b2 w1 hL)
 ((with_reducible refine lbx hL ?_);clear hL;intro b3 w1 hL)
 go_wp2_with (first|((with_reducible refine lal hL ?_ (hz:=zBoolC));clear hL;intro b4 w1 hL)|((with_reducible refine lal hL ?_ (hz:=zErrnoC));clear hL;intro b5 w1 hL)|(with_reducible first|refine lld hL ?_|((first|refine lbx hL ?_|refine lal hL ?_|refine lbs hL ?_);clear hL;intro bl w1 hL)|(refine lst' hL ?_;clear hL;intro w1 hL))|(go_at_call 48;refine(HK.out _ hL.below).mono ?_;rintro e w1 ⟨rfl,hb⟩;replace hL:=hL.grow hb;clear hb;dsimp only))
 clear HK
 go_loopw [27] (fun c wr=>∃ k:Nat,k≤sn∧c=.int .i64 k∧errs 0 (fun k=>rightP p is (l.getD k nonePd)) k=0∧Loc w wr [(b5,22,[.int .i64 0]),(b4,4,[.bool false]),(b3,64,[.slice sp sn sc]),(b2,27,[.int .i64 p.vars,.int .i64 p.fields,.slice p.pc p.n p.cap])] []) (fun c _=>sn - (intOf c).toNat)
 case atStart=>exact⟨0,Nat.zero_le _,rfl,rfl,hL⟩
 case round=>
  obtain⟨k,hk,rfl,hq,hL⟩:=hrel
  have HQ:=Lib.hid hq
  clear hq
  by_cases hlt:k<sn
  ·obtain rfl:=HP.out (by omega)
   clear HP
   have hr:=ReadsAt.agg (P:=Tryz.prog) tPic (HC.out k hlt).1 (HC.out k hlt).2 rfl
   have hg1:=HG.out k hlt
   have he:=errs_next HQ.out
   try dsimp only at he hr
   generalize hrg:rightP p is (l.getD k nonePd)=r at hg1 he
   generalize xs k=x at hr hg1
   obtain⟨xn,⟨vp,vn,vc⟩,⟨fp,fn,fc⟩⟩:=x
   try dsimp only[Pv.v,Pv.cells]at hr hg1
   have HR:=Lib.hid hr
   have HG1:=Lib.hid hg1
   have HE:=Lib.hid he
   clear hr hg1 he hrg
   by_cases h1:r=0
   case neg=>
    have k1:(r != 0)=true:=by simpa using h1
    have HX:=Lib.hid (show rightsE p is l=r from (errs_stop (k:=k+1) (by rw[← HLN.out];omega) (by rw[HE.out];exact h1)).trans HE.out)
    clear h1
    go_wp2_with (first|(with_reducible refine ldB HR.out hL ?_)|(with_reducible first|refine lld hL ?_|((first|refine lbx hL ?_|refine lal hL ?_|refine lbs hL ?_);clear hL;intro bl w1 hL)|(refine lst' hL ?_;clear hL;intro w1 hL))|(go_at_call 62;refine(HG1.out _ hL.below).mono ?_;rintro e w1 ⟨rfl,hb⟩;replace hL:=hL.grow hb;clear hb;dsimp only))
    (try simp only[Exit.inBlock,Exit.then]);refine rt2 ?_
    exact⟨by rw[HX.out],hL.below⟩
   subst h1
   go_wp2_with (first|(with_reducible refine ldB HR.out hL ?_)|(with_reducible first|refine lld hL ?_|((first|refine lbx hL ?_|refine lal hL ?_|refine lbs hL ?_);clear hL;intro bl w1 hL)|(refine lst' hL ?_;clear hL;intro w1 hL))|(go_at_call 62;refine(HG1.out _ hL.below).mono ?_;rintro e w1 ⟨rfl,hb⟩;replace hL:=hL.grow hb;clear hb;dsimp only))
   go_roundw
   case rel=>exact⟨k+1,by omega,by go_num,HE.out,hL.drop (List.sublist_cons_self _ _) (fun _ h=>h)⟩
   case measure=>simp[intOf];omega
  ·obtain rfl:k=sn:=by omega
   exact(HNE.out (by unfold rightsE;rw[← HLN.out];exact HQ.out)).elim
end Go.Proofs.YteoilpcbekijlaaGreatDoor
set_option linter.unusedSimpArgs false
set_option linter.unusedVariables false
set_option maxRecDepth 100000
namespace Go.Proofs.YteoilpcbekijlaaGreatDoor
open Go.RowKit
open Go.ChangeShapes Go.WideShapes Go.ChangeAt Go.RowKit Go.Deep Go.Joins
section
variable {H : Type} {enc : TypeId × Value → H} {w : World} {base : Nat} {spare : Nat → Bool} {held : Bool} {P : Program}
theorem open_listW {t e:TypeId}{α:Type} [Inhabited α] (f:α→List Value) (good:α→DataW H→Prop) {fuel:Nat}{cs:List Value}{x:DataW H × List MemPlace}(ht:P.underlying t=some (.slice e)) (hpos:0<P.cellsOf e)
  (hel:∀ n cs y,DataW.trod enc P w base spare held n e cs=some y→∃ a,cs=f a∧good a y.1) (h:DataW.trod enc P w base spare held fuel t cs=some x):
  ∃ (p:Option Addr) (n cap:Nat) (g:Nat→α),cs=[.slice p n cap]∧n≤9223372036854775807∧ListC w (P.cellsOf e) p n (fun k=>f (g k))∧((n=0)∨∃ es sp,x.1=.slice es sp∧∀ k,k<n→∃ y,y∈es∧good (g k) y):=by
 rcases open_slice ht h with⟨rfl,rfl⟩|⟨⟨B,O,S⟩,len,cap,m,nn,D,Pl,rfl,_,hlc,hcm,hm,rfl,hi⟩
 ·exact⟨none,0,0,fun _=>default,rfl,by decide,⟨0,0,fun h=>absurd h (Nat.lt_irrefl 0),fun k hk=>absurd hk (Nat.not_lt_zero k)⟩,.inl rfl⟩
 ·have hlm:len≤m:=by rw[hm];split<;>omega
  have h1:∀ i,i<len→∃ a:α,(∀ j u,(f a)[j]? = some u→w.cell? ((⟨B,O,S⟩:Addr).add (i*P.cellsOf e+j))=some u)∧(f a).length=P.cellsOf e∧good a (D i):=fun i hi'=>by
   obtain⟨cs',hc,htr⟩:=hi i (by omega)
   obtain⟨_,hcl,hat⟩:=World.cells?_some hc
   obtain⟨a,rfl,hg⟩:=hel _ _ _ htr
   refine⟨a,fun j u hj=>?_,hcl,hg⟩
   have hjl:j<P.cellsOf e:=by rw[← hcl];exact(List.getElem?_eq_some_iff.1 hj).1
   rw[← Go.Deep.add_add,hat j hjl,hj]
  obtain⟨g,hg⟩:=choose_fn h1
  have hS:0<len→S=none:=fun h0=>by
   have hl:=(hg 0 h0).2.1
   have h2:=(hg 0 h0).1 0 ((f (g 0))[0]'(by omega)) (List.getElem?_eq_getElem _)
   rw[Nat.zero_mul]at h2
   exact spot_none' (b:=B) (o:=O) (by simpa [Addr.add] using h2)
  refine⟨some ⟨B,O,S⟩,len,cap,g,rfl,by unfold maxLen at hcm;omega,⟨B,O,fun h0=>by rw[hS h0],fun k hk=>?_⟩,.inr ⟨_,_,rfl,fun k hk=>⟨D k,List.mem_map.2 ⟨k,List.mem_range.2 hk,rfl⟩,(hg k hk).2.2⟩⟩⟩
  have hk2:∀ j u,(f (g k))[j]? = some u→w.cell? ⟨B,O+k*P.cellsOf e+j,none⟩=some u:=fun j u hj=>by
   have h2:=(hg k hk).1 j u hj
   rw[hS (by omega),add_addr,← Nat.add_assoc]at h2
   exact h2
  have hl:=(hg k hk).2.1
  exact⟨cell_lt' (hk2 0 ((f (g k))[0]'(by omega)) (List.getElem?_eq_getElem _)),hk2⟩
theorem weights_all {e:TypeId}:∀ {es:List (DataW H)}{y:DataW H},y∈es→∀ x∈y.weights P e,x∈DataW.weightsAll P e es
 | [],_,h=>by cases h
 | d::r,y,h=>fun x hx=>by
  rw[DataW.weightsAll]
  rcases List.mem_cons.1 h with rfl|h
  ·exact List.mem_append_left _ hx
  ·exact List.mem_append_right _ (weights_all h x hx)
instance : Inhabited (Pv × Pd) := ⟨(zeroP, zeroPd)⟩
abbrev PicTop (x:Pv) (dd:DataW H):Prop:=∃ ys:List (DataW H),dd=.agg ys∧(∃ y,ys[1]? = some y∧TopS y x.vars.n)∧∃ y,ys[2]? = some y∧TopS y x.fields.n
theorem open_pics {fuel:Nat}{cs:List Value}{x:DataW H × List MemPlace}(h:DataW.trod enc Tryz.prog w base spare held fuel 64 cs=some x) (hb:∀ z∈x.1.weights Tryz.prog 64,z≤reachBytes):
  ∃ (s:Sl) (l:List Pd),cs=[.slice s.p s.n s.cap]∧PicsL w s l:=by
 obtain⟨p,n,cap,g,h1,h2,h3,h4⟩:=open_listW (fun a:Pv × Pd=>Pv.cells a.1) (fun a y=>PicPre w a.1 a.2∧PicTop a.1 y) Tryz.underlying64 (by rw[show Tryz.prog.cellsOf 54=3 by kernel_rfl];decide) (fun n cs y hy=>by
  obtain⟨y1,y2⟩:=y
  obtain⟨px,pd,e1,e2,e3⟩:=open_pic hy
  exact⟨(px,pd),e1,e2,e3⟩) h
 rw[show Tryz.prog.cellsOf 54=3 by kernel_rfl]at h3
 have hg:∀ k,k<n→((List.range n).map fun k=>(g k).2).getD k nonePd=(g k).2:=fun k hk=>getD_map_range _ _ _ _ hk
 refine⟨⟨p,n,cap⟩,(List.range n).map fun k=>(g k).2,h1,by simp,h2,fun k=>(g k).1,h3,fun k hk=>?_⟩
 have hkn:k<n:=hk
 rw[hg k hkn]
 rcases h4 with h4|⟨es,sp,h5,h6⟩
 ·omega
 ·obtain⟨y,hy,hp,ys,rfl,⟨y1,e1,top1⟩,y2,e2,top2⟩:=h6 k hkn
  have hall:∀ z∈(DataW.agg ys).weights Tryz.prog 54,z≤reachBytes:=fun z hz=>hb z (by
   rw[h5,DataW.weights,Tryz.underlying64]
   exact List.mem_cons_of_mem _ (List.mem_append_left _ (weights_all hy z hz)))
  have q1:=top_bound (P:=Tryz.prog) (B:=reachBytes) (l:=(DataW.agg ys).weights Tryz.prog 54) Tryz.underlying51 top1 (fun z hz=>by rw[weights_struct Tryz.underlying54];exact weights_at (j:=1) (t:=51) (d:=y1) (by rfl) e1 z hz) (List.all_eq_true.2 fun z hz=>by simpa using hall z hz)
  have q2:=top_bound (P:=Tryz.prog) (B:=reachBytes) (l:=(DataW.agg ys).weights Tryz.prog 54) Tryz.underlying52 top2 (fun z hz=>by rw[weights_struct Tryz.underlying54];exact weights_at (j:=2) (t:=52) (d:=y2) (by rfl) e2 z hz) (List.all_eq_true.2 fun z hz=>by simpa using hall z hz)
  rw[show Tryz.prog.bytesOf 110=64 by kernel_rfl]at q1
  rw[show Tryz.prog.bytesOf 51=24 by kernel_rfl]at q2
  have hr:reachBytes=140737488351232:=rfl
  exact⟨hp.e,hp.vars,hp.fields,show (g k).1.vars.n+(g k).1.fields.n≤9223372036854775807 by omega⟩
end
theorem pics_arg {H:Type}{enc:TypeId × Value→H}{w:World}{base:Nat}{spare:Nat→Bool}{held:Bool}{v:Value}{dd:DataW H}{pl:List MemPlace}{b0:Nat}{r:Reach}(hv:Value.okWide Tryz.prog w r b0 64 v) (h:DataW.Trod enc Tryz.prog w base spare held 64 v dd pl)
  {ts vt:List TypeId}{ds gs:List (DataW H)}{j:Nat} (hz:(DataW.weightsEach Tryz.prog (ts++vt) (ds++gs)).all (·≤reachBytes)=true) (ht:ts[j]? = some 64) (hd:ds[j]? = some dd):
  ∃ (s:Sl) (l:List Pd),v=.slice s.p s.n s.cap∧PicsL w s l:=by
 obtain⟨fuel,hf⟩:=h
 obtain⟨s,l,hcs,hl⟩:=open_pics hf (fun z hz2=>by
  have h1:=weights_at (P:=Tryz.prog) (ts:=ts++vt) (ds:=ds++gs) (j:=j) (t:=64) (d:=dd) (by rw[List.getElem?_append_left (by rw[List.getElem?_eq_some_iff]at ht;exact ht.1)];exact ht) (by rw[List.getElem?_append_left (by rw[List.getElem?_eq_some_iff]at hd;exact hd.1)];exact hd) z hz2
  exact of_decide_eq_true (List.all_eq_true.1 hz z h1))
 obtain⟨pp,len,cap,rfl⟩:=okWide_slice Tryz.underlying64 hv
 exact⟨s,l,by simpa [Value.cells] using hcs,hl⟩
end Go.Proofs.YteoilpcbekijlaaGreatDoor
