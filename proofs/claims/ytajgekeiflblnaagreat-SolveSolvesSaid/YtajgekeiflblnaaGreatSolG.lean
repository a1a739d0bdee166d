import Derived.Test.YtajgekeiflblnaaGreatSolF
set_option linter.unusedSimpArgs false
set_option linter.unusedVariables false
set_option maxRecDepth 100000
set_option maxHeartbeats 2000000
namespace Go.Proofs.YtajgekeiflblnaaGreat
open Go.RowKit
structure PicsL (w:World) (s:Sl) (l:List Pd):Prop where
 n:s.n=l.length
 m:s.n≤9223372036854775807
 ex:∃ xs:Nat→Pv,ListC w 3 s.p s.n (fun k=>(xs k).cells)∧∀ k,k<s.n→PicIs w (xs k) (l.getD k nonePd)
theorem PicsL.grow {w w' : World}{s:Sl}{l:List Pd}(h:PicsL w s l) (hb:Below w.heap.size w w'):PicsL w' s l:=by
 obtain⟨h1,h2,xs,h3,h4⟩:=h
 exact⟨h1,h2,xs,h3.grow hb,fun k hk=>(h4 k hk).grow hb⟩
theorem GotPs.is {w w' : World}{s:Sl}{l:List Pd}(h:GotPs w w' s l):PicsL w' s l:=by
 obtain⟨xs,R,hl,hR,hL⟩:=h
 have hn:=hR.flatlen lenP3 (by decide)
 obtain⟨_,h2⟩:=hR.listC lenP3 zeroPv (by decide) hL.own
 have hp:=hL.get (S:=PicsD xs l) List.mem_cons_self
 exact⟨by rw[hn,hl],hR.max,fun k=>xs.getD k zeroPv,h2,fun k hk=>hp k (by omega)⟩
theorem PicsL.at' {w:World}{s:Sl}{l:List Pd}(h:PicsL w s l):∃ xs:Nat→Pv,PicsAt w s.p s.n xs (fun k=>l.getD k nonePd):=by
 obtain⟨_,h2,xs,h3,h4⟩:=h
 exact⟨xs,h3,h4,h2⟩
def fitsE (is:Nat→Ins) (pn:Nat) (l:List Pd):Bool:=(List.range pn).all fun i=>(rawD is i (l.getD i nonePd)).es.all fun x=>insideP x.2 (l.getD x.1.toNat nonePd)
def fitsS (is:Nat→Ins) (pn:Nat) (l:List Pd) (f:Pd):Bool:=fitsE is pn l&&insideP f (l.getD 0 nonePd)
theorem fitsE_iff {is:Nat→Ins}{pn:Nat}{l:List Pd}:fitsE is pn l=true↔∀ i,i<pn→∀ x∈(rawD is i (l.getD i nonePd)).es,insideP x.2 (l.getD x.1.toNat nonePd)=true:=by
 unfold fitsE
 rw[List.all_eq_true]
 refine⟨fun h i hi x hx=>?_,fun h i hi=>?_⟩
 ·exact List.all_eq_true.1 (h i (List.mem_range.2 hi)) x hx
 ·exact List.all_eq_true.2 (h i (List.mem_range.1 hi))
theorem fitsE_no {is:Nat→Ins}{pn:Nat}{l:List Pd}{i:Nat}(hi:i<pn) {x:Int × Pd}(hx:x∈(rawD is i (l.getD i nonePd)).es) (h:insideP x.2 (l.getD x.1.toNat nonePd)=false):fitsE is pn l=false:=by
 cases hf:fitsE is pn l with
 | false=>rfl
 | true=>rw[fitsE_iff.1 hf i hi x hx]at h;cases h
abbrev rightsE (p:Pg) (is:Nat→Ins) (l:List Pd):Int:=errs 0 (fun k=>rightP p is (l.getD k nonePd)) l.length
theorem rights_of {p:Pg}{is:Nat→Ins}{l:List Pd}(h:rightsE p is l=0):∀ k,k<l.length→rightP p is (l.getD k nonePd)=0:=by
 have h2:∀ n,errs 0 (fun k=>rightP p is (l.getD k nonePd)) n=0→∀ k,k<n→rightP p is (l.getD k nonePd)=0:=by
  intro n
  induction n with
  | zero=>intro _ k hk;exact absurd hk (Nat.not_lt_zero k)
  | succ n ih=>
   intro h k hk
   have h0:errs 0 (fun k=>rightP p is (l.getD k nonePd)) n=0:=by
    apply Classical.byContradiction
    intro hne
    rw[errs,if_pos hne]at h
    exact hne h
   rcases Nat.lt_or_ge k n with h3|h3
   ·exact ih h0 k h3
   ·obtain rfl:k=n:=by omega
    rw[errs_next h0]at h
    exact h
 exact h2 _ h
theorem fits_prog (p:Pg) (is:Nat→Ins) (s:Sl) (w:World) (hn:p.n≤9223372036854775807) (hc:CodeAt w p is) (hq:checkProg p is≠0):
  Calls Tryz.prog 11 #[p.v,.slice s.p s.n s.cap] w fun e w'=>e=.returned (.tuple #[.bool false,.int .i64 (checkProg p is)])∧Below w.heap.size w w':=by
 have HK:=Lib.hid (fun w' (hb:Below w.heap.size w w')=>codeCheck_any p is w' (hc.grow hb) hn)
 generalize checkProg p is=c at hq HK ⊢
 have hne:(c != 0)=true:=bne_iff_ne.2 hq
 clear hq hc hn
 obtain⟨sp,sn,sc⟩:=s
 have hL:=Loc.start w
 go_enter Tryz.func11,Tryz.ntmps11
 go_wp2_with (first|((with_reducible refine lal hL ?_ (hz:=zBoolC));clear hL;intro b4 w1 hL)|((with_reducible refine lal hL ?_ (hz:=zErrnoC));clear hL;intro b5 w1 hL)|(with_reducible first|refine lld hL ?_|((first|refine lbx hL ?_|refine lal hL ?_|refine lbs hL ?_);clear hL;intro bl w1 hL)|(refine lst' hL ?_;clear hL;intro w1 hL))|(go_at_call 32;refine(HK.out _ hL.below).mono ?_;rintro e w1 ⟨rfl,hb⟩;replace hL:=hL.grow hb;clear hb;dsimp only))
 (try simp only[Exit.inBlock,Exit.then]);refine rt2 ?_
 exact⟨rfl,hL.below⟩
theorem fits_form (p:Pg) (is:Nat→Ins) (s:Sl) (w:World) (hn:p.n≤9223372036854775807) (hc:CodeAt w p is) (hq:checkProg p is=0) (hl:s.n≠p.n+1):
  Calls Tryz.prog 11 #[p.v,.slice s.p s.n s.cap] w fun e w'=>e=.returned (.tuple #[.bool false,.int .i64 1])∧Below w.heap.size w w':=by
 have hk:=fun w' (hb:Below w.heap.size w w')=>codeCheck_any p is w' (hc.grow hb) hn
 rw[hq]at hk
 have HK:=Lib.hid hk
 have hs:=(prog_right hq).1.n1
 have hne:((s.n:Int) != (p.n:Int)+1)=true:=by rw[bne_iff_ne];omega
 clear hq hc hn hk hl
 obtain⟨sp,sn,sc⟩:=s
 dsimp only at hne
 have hL:=Loc.start w
 go_enter Tryz.func11,Tryz.ntmps11
 go_wp2_with (first|((with_reducible refine lal hL ?_ (hz:=zBoolC));clear hL;intro b4 w1 hL)|((with_reducible refine lal hL ?_ (hz:=zErrnoC));clear hL;intro b5 w1 hL)|(with_reducible first|refine lld hL ?_|((first|refine lbx hL ?_|refine lal hL ?_|refine lbs hL ?_);clear hL;intro bl w1 hL)|(refine lst' hL ?_;clear hL;intro w1 hL))|(go_at_call 32;refine(HK.out _ hL.below).mono ?_;rintro e w1 ⟨rfl,hb⟩;replace hL:=hL.grow hb;clear hb;dsimp only))
 (try simp only[Exit.inBlock,Exit.then]);refine rt2 ?_
 exact⟨rfl,hL.below⟩
theorem fits_pic (p:Pg) (is:Nat→Ins) (s:Sl) (l:List Pd) (w:World) (hn:p.n≤9223372036854775807) (hc:CodeAt w p is) (hg:PicsL w s l) (hq:checkProg p is=0) (hl:s.n=p.n+1) (hr:rightsE p is l≠0):
  Calls Tryz.prog 11 #[p.v,.slice s.p s.n s.cap] w fun e w'=>e=.returned (.tuple #[.bool false,.int .i64 (rightsE p is l)])∧Below w.heap.size w w':=by
 have hk:=fun w' (hb:Below w.heap.size w w')=>codeCheck_any p is w' (hc.grow hb) hn
 rw[hq]at hk
 have HK:=Lib.hid hk
 have hs:=(prog_right hq).1.n1
 obtain⟨xs,hx,hp⟩:=hg.ex
 obtain⟨b,o,hpp,hcc⟩:=hx.ex
 have HP:=Lib.hid hpp
 have HC:=Lib.hid hcc
 have HG:=Lib.hid (fun k hk w' (hb:Below w.heap.size w w')=>picRight_any p is (xs k) (l.getD k nonePd) w' hs (hc.grow hb) ((hp k hk).grow hb))
 have HLN:=Lib.hid hg.n
 have HNE:=Lib.hid hr
 have hne:((s.n:Int) != (p.n:Int)+1)=false:=by rw[hl];simp
 have hm:s.n≤61:=by omega
 clear hq hc hn hk hr hx hp hpp hcc hg hl
 obtain⟨sp,sn,sc⟩:=s
 dsimp only at hne hm HP HC HG HLN
 have hnw:wrap64 ((p.n:Int)+1)=(p.n:Int)+1:=by have:=hs;unfold wrap64;omega
 have hL:=Loc.start w
 go_enter Tryz.func11,Tryz.ntmps11
 go_step
 go_step
 go_step
 ((with_reducible refine lbx hL ?_);clear hL;intro b2 w1 hL)
 ((with_reducible refine lbx hL ?_);clear hL;intro b3 w1 hL)
 go_wp2_with (first|((with_reducible refine lal hL ?_ (hz:=zBoolC));clear hL;intro b4 w1 hL)|((with_reducible refine lal hL ?_ (hz:=zErrnoC));clear hL;intro b5 w1 hL)|(with_reducible first|refine lld hL ?_|((first|refine lbx hL ?_|refine lal hL ?_|refine lbs hL ?_);clear hL;intro bl w1 hL)|(refine lst' hL ?_;clear hL;intro w1 hL))|(go_at_call 32;refine(HK.out _ hL.below).mono ?_;rintro e w1 ⟨rfl,hb⟩;replace hL:=hL.grow hb;clear hb;dsimp only))
 clear HK
 go_loopw [27] (fun c wr=>∃ k:Nat,k≤sn∧c=.int .i64 k∧errs 0 (fun k=>rightP p is (l.getD k nonePd)) k=0∧Loc w wr [(b5,30,[.int .i64 0]),(b4,4,[.bool false]),(b3,34,[.slice sp sn sc]),(b2,24,[.int .i64 p.vars,.int .i64 p.fields,.slice p.pc p.n p.cap])] []) (fun c _=>sn - (intOf c).toNat)
 case atStart=>exact⟨0,Nat.zero_le _,rfl,rfl,hL⟩
 case round=>
  obtain⟨k,hk,rfl,hq,hL⟩:=hrel
  have HQ:=Lib.hid hq
  clear hq
  by_cases hlt:k<sn
  ·obtain rfl:=HP.out (by omega)
   clear HP
   have hr:=ReadsAt.agg (P:=Tryz.prog) tPic (HC.out k hlt).1 (HC.out k hlt).2 rfl
   have hg1:=HG.out k hlt
   have he:=errs_next HQ.out
   try dsimp only at he hr
   generalize hrg:rightP p is (l.getD k nonePd)=r at hg1 he
   generalize xs k=x at hr hg1
   obtain⟨xn,⟨vp,vn,vc⟩,⟨fp,fn,fc⟩⟩:=x
   try dsimp only[Pv.v,Pv.cells]at hr hg1
   have HR:=Lib.hid hr
   have HG1:=Lib.hid hg1
   have HE:=Lib.hid he
   clear hr hg1 he hrg
   by_cases h1:r=0
   case neg=>
    have k1:(r != 0)=true:=by simpa using h1
    have HX:=Lib.hid (show rightsE p is l=r from (errs_stop (k:=k+1) (by rw[← HLN.out];omega) (by rw[HE.out];exact h1)).trans HE.out)
    clear h1
    go_wp2_with (first|(with_reducible refine ldB HR.out hL ?_)|(with_reducible first|refine lld hL ?_|((first|refine lbx hL ?_|refine lal hL ?_|refine lbs hL ?_);clear hL;intro bl w1 hL)|(refine lst' hL ?_;clear hL;intro w1 hL))|(go_at_call 34;refine(HG1.out _ hL.below).mono ?_;rintro e w1 ⟨rfl,hb⟩;replace hL:=hL.grow hb;clear hb;dsimp only))
    (try simp only[Exit.inBlock,Exit.then]);refine rt2 ?_
    exact⟨by rw[HX.out],hL.below⟩
   subst h1
   go_wp2_with (first|(with_reducible refine ldB HR.out hL ?_)|(with_reducible first|refine lld hL ?_|((first|refine lbx hL ?_|refine lal hL ?_|refine lbs hL ?_);clear hL;intro bl w1 hL)|(refine lst' hL ?_;clear hL;intro w1 hL))|(go_at_call 34;refine(HG1.out _ hL.below).mono ?_;rintro e w1 ⟨rfl,hb⟩;replace hL:=hL.grow hb;clear hb;dsimp only))
   go_roundw
   case rel=>exact⟨k+1,by omega,by go_num,HE.out,hL.drop (List.sublist_cons_self _ _) (fun _ h=>h)⟩
   case measure=>simp[intOf];omega
  ·obtain rfl:k=sn:=by omega
   exact(HNE.out (by unfold rightsE;rw[← HLN.out];exact HQ.out)).elim
end Go.Proofs.YtajgekeiflblnaaGreat
