import Derived.Test.YtajgekeiflblnaaGreatRspa
import Derived.Test.YtajgekeiflblnaaGreatRspb
import Derived.Test.YtajgekeiflblnaaGreatRefStepJ
import Derived.Test.YtajgekeiflblnaaGreatRefStepK
import Derived.Test.YtajgekeiflblnaaGreatPicc
set_option linter.unusedSimpArgs false
set_option linter.unusedVariables false
set_option maxRecDepth 100000
set_option maxHeartbeats 1000000
namespace Go.Proofs.YtajgekeiflblnaaGreat
open Go.RowKit
theorem rsp_some (p:Pg) (is:Nat→Ins) (x:Pv) (d:Pd) (gx:List Gu) (at' : Nat) (w:World) (hp:checkProg p is=0) (hc:CodeAt w p is) (hx:PicIs w x d) (hgx:GxIs w x d gx) (ok:OkPd p is d) (hat:at' < p.n):RGoes p at' x d gx (stepD (is at') at' d) w:=by
 have hr:=ready_of ((prog_right hp).2 at' hat)
 rcases kinds19 hr.kd with hk|hk|hk|hk|hk|hk|hk|hk|hk|hk|hk|hk|hk
 ·exact rsp_1 p is _ x d gx at' w hp hc hx hgx ok hat rfl hk
 ·exact rsp_14 p is _ x d gx at' w hp hc hx hgx ok hat rfl hk
 ·have h2:=hr.n2 hk
  rcases (by omega:(is at').n=0∨(is at').n=1) with h3|h3
  ·exact rsp_2_0 p is _ x d gx at' w hp hc hx hgx ok hat rfl hk h3
  ·exact rsp_2_1 p is _ x d gx at' w hp hc hx hgx ok hat rfl hk h3
 ·exact rsp_3 p is _ x d gx at' w hp hc hx hgx ok hat rfl hk
 ·exact rsp_11 p is _ x d gx at' w hp hc hx hgx ok hat rfl hk
 ·exact rsp_12 p is _ x d gx at' w hp hc hx hgx ok hat rfl hk
 ·exact rsp_13 p is _ x d gx at' w hp hc hx hgx ok hat rfl hk
 ·exact rsp_15 p is _ x d gx at' w hp hc hx hgx ok hat rfl hk
 ·exact rsp_17 p is _ x d gx at' w hp hc hx hgx ok hat rfl hk
 ·exact rsp_16 p is _ x d gx at' w hp hc hx hgx ok hat rfl hk
 ·exact rsp_18 p is _ x d gx at' w hp hc hx hgx ok hat rfl hk
 ·exact rsp_19 p is _ x d gx at' w hp hc hx hgx ok hat rfl hk
 ·simp only[betw,Bool.and_eq_true,decide_eq_true_eq]at hk
  rcases (by omega:(is at').kind=4∨(is at').kind=10∨(5≤(is at').kind∧(is at').kind≤9)) with h|h|h
  ·exact rsp_4 p is _ x d gx at' w hp hc hx hgx ok hat rfl h
  ·exact rsp_10 p is _ x d gx at' w hp hc hx hgx ok hat rfl h
  ·exact rsp_two p is _ x d gx at' w hp hc hx hgx ok hat rfl h
theorem rsp_any (p:Pg) (is:Nat→Ins) (x:Pv) (d:Pd) (gx:List Gu) (at' : Nat) (w:World) (hp:checkProg p is=0) (hc:CodeAt w p is) (hx:PicIs w x d) (hgx:GxIs w x d gx) (h:rightP p is d=0) (hat:at' < p.n):RGoes p at' x d gx (rawD is at' d) w:=by
 cases hdn:d.none with
 | false=>
  rw[show rawD is at' d=stepD (is at') at' d from if_neg (by rw[hdn];decide)]
  exact rsp_some p is x d gx at' w hp hc hx hgx (OkPd.of h hdn) hat
 | true=>
  have hxe:=hx.e
  rw[hdn]at hxe
  rw[show rawD is at' d=⟨[],false,false⟩ from if_pos hdn]
  unfold RGoes
  clear hx h hc hp hgx hdn
  obtain⟨xn,⟨xp,xvn,xc⟩,⟨xfp,xfn,xfc⟩⟩:=x
  dsimp only at hxe
  subst hxe
  have hL:=Loc.start w
  go_enter Tryz.func7,Tryz.ntmps7
  go_wp2_with (first|(with_reducible first|refine lld hL ?_|((first|refine lbx hL ?_|refine lal hL ?_|refine lbs hL ?_);clear hL;intro bl w1 hL)|(refine lst' hL ?_;clear hL;intro w1 hL)))
  (try simp only[Exit.inBlock,Exit.then]);refine rt3 ?_
  exact⟨nilSl,rfl,GotC.nil hL.below⟩
theorem PicIs.gx {w:World}{x:Pv}{d:Pd}(h:PicIs w x d):∃ gx,GxIs w x d gx:=by
 obtain⟨gx,h1,h2⟩:=h.vars.gus
 exact⟨gx,h1,h2⟩
theorem EdsIs.reads {w:World}{s:Sl}{es:List (Int × Pd)}(h:EdsIs w s es):∃ (b o:Nat) (xs:Nat→Pv),(0<s.n→s.p=some ⟨b,o,none⟩)∧∀ k,k<s.n→ReadsAt Tryz.prog 3 w b (o+k*4) (.int .i64 (es.getD k (0,zeroPd)).1)∧ReadsAt Tryz.prog 28 w b (o+k*4+1) (xs k).v∧PicIs w (xs k) (es.getD k (0,zeroPd)).2:=by
 obtain⟨hn,hm,evs,hd,hl⟩:=h
 obtain⟨b,o,hp,hc⟩:=hl.ex
 refine⟨b,o,fun k=>(evs.getD k zeroE).x,hp,fun k hk=>?_⟩
 obtain⟨h1,h2⟩:=hc k hk
 obtain⟨h3,h4⟩:=hd.at' k (by omega)
 refine⟨?_,?_,h4⟩
 ·have h5:=ReadsAt.cell (P:=Tryz.prog) tInt h1 (h2 0 _ rfl)
  rw[← h3]
  exact h5
 ·refine ReadsAt.agg (P:=Tryz.prog) tPic h1 (fun j v hj=>?_) rfl
  have h6:=h2 (j+1) v (by simpa using hj)
  rw[show o+k*4+1+j=o+k*4+(j+1) by omega]
  exact h6
end Go.Proofs.YtajgekeiflblnaaGreat
