import Derived.Test.YtajgekeiflblnaaGreatSolH
import Derived.Test.YtajgekeiflblnaaGreatSml
set_option linter.unusedSimpArgs false
set_option linter.unusedVariables false
set_option maxRecDepth 100000
set_option maxHeartbeats 4000000
namespace Go.Proofs.YtajgekeiflblnaaGreat
open Go.RowKit
theorem PicsL.zero (w:World) (p:Option Addr) (c:Nat):PicsL w ⟨p,0,c⟩ []:=⟨rfl,Nat.zero_le _,fun _=>nonePv,⟨0,0,fun h=>absurd h (Nat.lt_irrefl 0),fun k hk=>absurd hk (Nat.not_lt_zero k)⟩,fun k hk=>absurd hk (Nat.not_lt_zero k)⟩
theorem Loc.picsL {w0 w w1:World}{L:List LBlk}{D:List Datum}(h:Loc w0 w L D) {s:Sl}{l:List Pd}(g:GotPs w w1 s l):Loc w0 w1 L ((fun w=>PicsL w s l)::D):=by
 obtain⟨xs,R,hl,hR,hG⟩:=g
 refine(h.gave hG).facts (fun w' hr ht=>?_)
 have hn:=hR.flatlen lenP3 (by decide)
 obtain⟨_,h2⟩:=hR.listC (B:=w.heap.size) (w:=w') lenP3 zeroPv (by decide) ⟨hG.nodup,fun e he=>⟨hG.ids e he,hr e he⟩⟩
 exact⟨by rw[hn,hl],hR.max,fun k=>xs.getD k zeroPv,h2,fun k hk=>ht k (by omega)⟩
def smallL:List Pd:=solN smallIs 2 (beginS 1 0 2) 2
theorem small_chg0:chgN smallIs 2 (beginS 1 0 2) 0=true:=by kernel_rfl
theorem small_chg1:chgN smallIs 2 (beginS 1 0 2) 1=false:=by kernel_rfl
theorem small_ends:EndsN smallIs 2 (beginS 1 0 2) 1:=⟨small_chg1,fun j hj=>by
 obtain rfl:j=0:=by omega
 exact small_chg0⟩
theorem small_fits:fitsS smallIs 2 smallL (firstP 1 0 2)=true:=by kernel_rfl
theorem small_len:smallL.length=3:=by kernel_rfl
theorem small_none:(smallL.getD 2 nonePd).none=false:=by kernel_rfl
theorem small_rights (b:Nat):∀ k,k≤2→rightP (smallP b) smallIs (smallL.getD k nonePd)=0:=
 (solN_ok (p:=smallP b) (small_right b) (beginS_ok (p:=smallP b) (is:=smallIs) (nv:=1) (nf:=0) rfl rfl) 2).r
theorem solveBegun_any (w:World):
  Calls Tryz.prog 15 #[] w fun e w'=>e=.returned (.bool true)∧Below w.heap.size w w':=by
 have hL:=Loc.start w
 go_enter Tryz.func15,Tryz.ntmps15
 go_upto_region 3 with(first|(with_reducible first|refine lld hL ?_|((first|refine lbx hL ?_|refine lal hL ?_|refine lbs hL ?_);clear hL;intro bl w1 hL)|(refine lst' hL ?_;clear hL;intro w1 hL))|(go_at_call 30;refine(small_any _).mono ?_;rintro e w3 ⟨bs,rfl,hge,hsm,hb3⟩;replace hL:=hL.gain hb3 hge hsm;clear hge hsm hb3;(try dsimp only))|(go_at_call 10;refine(solve_ok (smallP bs) smallIs 1 0 rfl rfl _ (show (2:Nat)≤9223372036854775807 by decide) (small_code (hL.heap cIn)) (small_right bs)).mono ?_;rintro e w3 ⟨k,⟨sp,sn,sc⟩,rfl,hE,hG⟩;obtain rfl:=hE.one small_ends;replace hL:=hL.picsL (l:=smallL) hG;clear hE hG;dsimp only)|(go_at_call 11;refine(fits_ok (smallP bs) smallIs 1 0 rfl rfl ⟨sp,sn,sc⟩ smallL (small_right bs) _ (small_code (hL.heap cIn)) (hL.get (S:=fun w=>PicsL w ⟨sp,sn,sc⟩ smallL) cMm) ((hL.get (S:=fun w=>PicsL w ⟨sp,sn,sc⟩ smallL) cMm).n.trans small_len) (small_rights bs)).mono ?_;rw[show fitsS smallIs (smallP bs).n smallL (firstP 1 0 (smallP bs).n)=true from small_fits];rintro e w1 ⟨rfl,hb⟩;replace hL:=hL.grow hb;clear hb;dsimp only))
 obtain⟨hn,-,xs,hx,hpp⟩:=hL.get (S:=fun w=>PicsL w ⟨sp,sn,sc⟩ smallL) cMm
 rw[small_len]at hn
 dsimp only at hn hx hpp
 subst hn
 obtain⟨b,o,hq,hcc⟩:=hx.ex
 obtain rfl:=hq (by decide)
 have hr:=ReadsAt.cell (P:=Tryz.prog) tBool (hcc 2 (by decide)).1 ((hcc 2 (by decide)).2 0 _ rfl)
 rw[show (xs 2).none=false from (hpp 2 (by decide)).e.trans small_none]at hr
 have HR:=Lib.hid hr
 have HB0:=Lib.hid hL.below
 clear hr hq hcc hx hpp hL
 have hL:=Loc.start w1
 go_wp2_with (first|(with_reducible refine ldB HR.out hL ?_)|(with_reducible first|refine lld hL ?_|((first|refine lbx hL ?_|refine lal hL ?_|refine lbs hL ?_);clear hL;intro bl w1 hL)|(refine lst' hL ?_;clear hL;intro w1 hL)))
 (try simp only[Exit.inBlock,Exit.then]);refine rt1 ?_
 exact⟨by simp,HB0.out.trans (hL.below.mono HB0.out.size)⟩
end Go.Proofs.YtajgekeiflblnaaGreat
