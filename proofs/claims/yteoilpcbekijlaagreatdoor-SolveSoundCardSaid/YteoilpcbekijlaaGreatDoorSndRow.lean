import Derived.Test.YteoilpcbekijlaaGreatDoorOpn
import Derived.Test.YteoilpcbekijlaaGreatDoorTie
import Derived.Test.YteoilpcbekijlaaGreatDoorCards
import Derived.ChangeVars
import Derived.JoinedOf
import Derived.LaidLaws
import Derived.LaidMore
import Derived.Stop.LaidErr
import Derived.Stop.Joined
import Derived.MakeChecks
import Derived.SevenTiedAt
import Derived.Test.YteoilpcbekijlaaGreatDoorSndL
set_option linter.unusedSimpArgs false
set_option linter.unusedVariables false
set_option maxRecDepth 100000
set_option maxHeartbeats 1600000
namespace Go.Proofs.YteoilpcbekijlaaGreatDoor.solveSound
open Go.RowKit
open Go.ChangeShapes Go.WideShapes Go.ChangeAt Go.RowKit Go.Deep Go.Joins
theorem own:ownKnob Tryz.prog.godebug=none:=by kernel_rfl
theorem laid:laidOutB Tryz.prog=true:=by kernel_rfl
abbrev L:List (String × DataW Unit):=Rows.solveSoundRow.laid
theorem door_met (os:Os) (args:Array Value):laidMetH Tryz.prog L ((World.doorLaid Tryz.prog 24 os).forCall (fun _ _=>0) ⟨#[],args,[]⟩).memory:=
 laidMetH_of_parts3 (fuel:=8) (laidMet_of_run' 8 (by kernel_rfl) (by kernel_rfl)) (by kernel_rfl) (by kernel_rfl)
theorem lifted (os:Os) (started:os.Started) (H:Type) (enc:TypeId × Value→H):
  ReturnsInHanded {} Tryz.checked os 6 .any (fun w args=>(Rows.solveSoundSpec.pre enc Tryz.prog Tryz.f6 [] false w args∧laidMetH Tryz.prog L w)∧sizedMet enc Tryz.prog Tryz.f6 (OpenSpec.ofChange Rows.solveSoundSpec) false w args)
   (Rows.solveSoundSpec.post enc Tryz.prog Tryz.f6 false true false false):=by
 refine returnsInHanded_of_change_and (C:=Tryz.checked) (X:=fun w _=>laidMetH Tryz.prog L w) (fun _ _ _ hh h=>h.of_heap hh) own started (by kernel_rfl) Tryz.func6
  (ChangeSpec.witness_shaped (enc:=enc) (C:=Tryz.checked) (os:=os) (X:=fun w _=>laidMetH Tryz.prog L w) false (World.doorLaid Tryz.prog 24 os) #[.agg #[.int .i64 0,.int .i64 0,.slice none 0 0],.slice none 0 0,.int .i64 0] 8 rfl (World.shaped_of_RefB (by kernel_rfl) (by kernel_rfl)) (by kernel_rfl) (by kernel_rfl) (by kernel_rfl) (door_met os _)) ?_
 intro W base args ds gs before hval0 hW _ hz hL _
 have hval:∀ (j:Nat) t v,Tryz.f6.params[j]? = some t→args[j]? = some v→Value.okWide Tryz.prog W .any base t v:=hval0
 have hW':=hW
 have hlt:∀ p∈before,p.block<W.heap.size:=fun p hp=>hW.lt p hp
 obtain⟨p,q,hA0,hV,rfl,hfz,hnd⟩:=hW
 have hA:DataW.TrodAll enc Tryz.prog W 0 (fun _=>true) true Tryz.f6.params.toList args.toList ds p:=hA0
 have hAll:=hA
 rw[Tryz.params6]at hA hval hz
 rw[MakeChecks.laidMetH_plain _ _ _ (by kernel_rfl)]at hL
 have HP:Pows W:=Lib.tabIs_of_head (g:=1) (k:=.u64) (zs:=Lib.pow10Tab) (by kernel_rfl) (by kernel_rfl) Tryz.underlying249 Tryz.underlying218 (by kernel_rfl) (by kernel_rfl) hL.tail.tail
 obtain⟨v0,vs0,d0,ds0,p0,q0,hargs,rfl,hp0,h0,r0⟩:=trodAll_cons hA
 obtain⟨v1,vs1,d1,ds1,p1,q1,rfl,rfl,hp1,h1,r1⟩:=trodAll_cons r0
 obtain⟨v2,vs2,d2,ds2,p2,q2,rfl,rfl,hp2,h2,r2⟩:=trodAll_cons r1
 obtain⟨rfl,rfl,hpn⟩:=trodAll_nil r2
 obtain rfl:args=#[v0,v1,v2]:=by cases args;simp_all
 obtain⟨rfl,rfl⟩:=trodVars_none hV
 have key:Calls Tryz.prog 6 #[v0,v1,v2] W fun e w'=>e=.returned (.bool true)∧Below W.heap.size W w':=by
  obtain⟨cs0,fu0,rfl,t0⟩:=open_structT Tryz.underlying27 (hval 0 27 v0 rfl rfl) h0
  obtain⟨pg,is,e0,hn,hc⟩:=open_prog t0
  obtain rfl:cs0=#[.int .i64 pg.vars,.int .i64 pg.fields,.slice pg.pc pg.n pg.cap]:=by rw[← Array.toList_inj];exact e0
  obtain⟨fu1,t1⟩:=h1
  obtain⟨si,gi,e2,n2,l2⟩:=open_inputs t1
  obtain⟨pp,nn,cc,rfl⟩:=okWide_slice Tryz.underlying37 (hval 1 37 v1 rfl rfl)
  have e2' : Value.slice pp nn cc=.slice si.p si.n si.cap:=by simpa [Value.cells] using e2
  rw[e2']
  obtain⟨k,rfl,-,-,w2⟩:=open_int Tryz.underlying3 (hval 2 3 v2 rfl rfl) h2
  exact sound_any pg is si gi k W hn hc ⟨l2,n2⟩ HP
 refine key.mono fun e W' ⟨he,hb⟩=>?_
 subst he
 have hargs:∀ sp:Nat→Bool,(∀ x∈p,sp x.block=true)→DataW.TrodAll enc Tryz.prog W' 0 sp true Tryz.f6.params.toList [v0,v1,v2] [d0,d1,d2] p:=fun sp hsp=>
  trodAll_stays laid _ _ _ _ (by kernel_rfl) hAll (fun x hx=>hb.same (hlt x (List.mem_append_left _ hx))) hsp
 exact⟨_,rfl,post_of_below (pa:=p) (pv:=[]) hW' (fun _ _ _=>(trodAll_cons_mk (shut_bool Tryz.underlying4 _) trodAll_mk0)) (fun sp hsp=>hargs sp (fun x hx=>hsp x (List.mem_append_left _ hx))) (fun _ _=>rfl) rfl hb
  (ok_one (by kernel_rfl) rfl (okWide_bool_mk Tryz.underlying4 _))⟩
theorem over:Rows.SolveSoundSaid:=
 OpenClaim.holds_of_wide 6 Tryz.f6 rfl rfl rfl rfl rfl rfl rfl ⟨rfl,rfl,rfl,rfl,rfl⟩ rfl rfl rfl rfl rfl (by kernel_rfl) Tryz.func6 (by kernel_rfl)
  (of_decide_eq_true (by kernel_rfl)) (by unfold Func.isWrapper;first|(rw[if_pos (by decide +kernel)];kernel_rfl)|(rw[if_neg (by decide +kernel)];exact⟨rfl,rfl⟩))
  (fun os started H enc _=>lifted os started H enc)
theorem proved:Rows.SolveSoundCardSaid:=
 Claim7.holds_tied_plain_at .later [] [.data, .data, .data] true (true, "8b1913f2c40ff9ab3e0c9352022b778a437c8af2d781ae444cedbdd2ceb244ea") true
  over (fun _ h=>by cases h) (by kernel_rfl) (fun _ h=>by cases h) solveSound_row_tie rfl ⟨rfl,rfl⟩ (by kernel_rfl) rfl
  (fun f fn hf hfn=>by
   obtain rfl : f = 6 := Option.some.inj ((show Tryz.prog.funcNamed "soundings/soundingslaw.SolveSound" = some 6 by kernel_rfl).symm.trans hf) |>.symm
   obtain rfl:fn=Tryz.f6:=(Option.some.inj (Tryz.func6.symm.trans hfn)).symm
   exact⟨by kernel_rfl,fun j t ht=>by
    rw[Tryz.params6]at ht
    have hm:t∈[27,37,3]:=by simpa using Array.mem_of_getElem? ht
    have hall:([27,37,3].all fun u=>!Tryz.prog.wantsStandIn u)=true:=by kernel_rfl
    exact(show Tryz.prog.wantsStandIn t=false by simpa using List.all_eq_true.1 hall t hm)⟩)
  (by kernel_rfl)
end Go.Proofs.YteoilpcbekijlaaGreatDoor.solveSound
