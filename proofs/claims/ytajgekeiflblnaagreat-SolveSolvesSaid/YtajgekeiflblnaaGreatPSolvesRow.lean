import Derived.Test.YtajgekeiflblnaaGreatOpn
import Derived.SizedLaws
import Derived.Test.YtajgekeiflblnaaGreatOpenPics
import Derived.Test.YtajgekeiflblnaaGreatSolL
set_option linter.unusedSimpArgs false
set_option linter.unusedVariables false
set_option maxRecDepth 100000
set_option maxHeartbeats 1600000
namespace Go.Proofs.YtajgekeiflblnaaGreat.solveSolves
open Go.RowKit
open Go.ChangeShapes Go.WideShapes Go.ChangeAt Go.RowKit Go.Deep Go.Joins
theorem own:ownKnob Tryz.prog.godebug=none:=by kernel_rfl
theorem laid:laidOutB Tryz.prog=true:=by kernel_rfl
theorem lifted (os:Os) (started:os.Started) (H:Type) (enc:TypeId × Value→H):
  ReturnsInHanded {} Tryz.checked os 4 .any (Rows.solveSolvesSpec.pre6 enc Tryz.prog Tryz.f4 Rows.solveSolvesRow.domain false) (Rows.solveSolvesSpec.post enc Tryz.prog Tryz.f4 false true false false):=by
 refine returnsInHanded_of_change_sized (C:=Tryz.checked) own started (by kernel_rfl) Tryz.func4
  (ChangeSpec.witness6 (enc:=enc) (C:=Tryz.checked) false ⟨#[],#[.agg #[.int .i64 0,.int .i64 0,.slice none 0 0],.slice none 0 0],[]⟩ 8 (by kernel_rfl) (by kernel_rfl) (by kernel_rfl) (by kernel_rfl)) ?_
 intro W base args ds gs before hval0 hW hcnd hz _
 have hval:∀ (j:Nat) t v,Tryz.f4.params[j]? = some t→args[j]? = some v→Value.okWide Tryz.prog W .any base t v:=hval0
 have hW':=hW
 have hlt:∀ p∈before,p.block<W.heap.size:=fun p hp=>hW.lt p hp
 obtain⟨p,q,hA0,hV,rfl,hfz,hnd⟩:=hW
 have hA:DataW.TrodAll enc Tryz.prog W 0 (fun _=>true) true Tryz.f4.params.toList args.toList ds p:=hA0
 have hAll:=hA
 rw[Tryz.params4]at hA hval hz
 obtain⟨v0,vs0,d0,ds0,p0,q0,hargs,rfl,hp0,h0,r0⟩:=trodAll_cons hA
 obtain⟨v1,vs1,d1,ds1,p1,q1,rfl,rfl,hp1,h1,r1⟩:=trodAll_cons r0
 obtain⟨rfl,rfl,hpn⟩:=trodAll_nil r1
 obtain rfl:args=#[v0,v1]:=by cases args;simp_all
 obtain⟨rfl,rfl⟩:=trodVars_none hV
 have key:Calls Tryz.prog 4 #[v0,v1] W fun e w'=>e=.returned (.bool true)∧Below W.heap.size W w':=by
  obtain⟨cs0,fu0,rfl,t0⟩:=open_structT Tryz.underlying24 (hval 0 24 v0 rfl rfl) h0
  obtain⟨pg0,is0,e0,hn0,hc0⟩:=open_prog t0
  obtain rfl:cs0=#[.int .i64 pg0.vars,.int .i64 pg0.fields,.slice pg0.pc pg0.n pg0.cap]:=by rw[← Array.toList_inj];exact e0
  obtain⟨sl1,lp1,rfl,hpl1⟩:=pics_arg (hval 1 34 v1 rfl rfl) h1 hz (j:=1) rfl rfl
  exact psolve_any pg0 is0 sl1 lp1 W ⟨hn0,hc0,hpl1⟩
 refine key.mono fun e W' ⟨he,hb⟩=>?_
 subst he
 have hargs:∀ sp:Nat→Bool,(∀ x∈p,sp x.block=true)→DataW.TrodAll enc Tryz.prog W' 0 sp true Tryz.f4.params.toList [v0,v1] [d0,d1] p:=fun sp hsp=>
  trodAll_stays laid _ _ _ _ (by kernel_rfl) hAll (fun x hx=>hb.same (hlt x (List.mem_append_left _ hx))) hsp
 exact⟨_,rfl,post_of_below (pa:=p) (pv:=[]) hW' (fun _ _ _=>(trodAll_cons_mk (shut_bool Tryz.underlying4 _) trodAll_mk0)) (fun sp hsp=>hargs sp (fun x hx=>hsp x (List.mem_append_left _ hx))) (fun _ _=>rfl) rfl hb
  (ok_one (by kernel_rfl) rfl (okWide_bool_mk Tryz.underlying4 _))⟩
theorem over:Rows.solveSolvesRow.holds Tryz.pinned (OpenSpec.ofChange Rows.solveSolvesSpec):=
 OpenClaim.holds_of_wide 4 Tryz.f4 rfl rfl rfl rfl rfl rfl rfl ⟨rfl,rfl,rfl,rfl,rfl⟩ rfl rfl rfl rfl rfl (by kernel_rfl) Tryz.func4 (by kernel_rfl)
  (of_decide_eq_true (by kernel_rfl)) (by unfold Func.isWrapper;first|(rw[if_pos (by decide +kernel)];kernel_rfl)|(rw[if_neg (by decide +kernel)];exact⟨rfl,rfl⟩))
  (fun os started H enc _=>lifted os started H enc)
theorem proved:Rows.SolveSolvesSaid:=over
end Go.Proofs.YtajgekeiflblnaaGreat.solveSolves
