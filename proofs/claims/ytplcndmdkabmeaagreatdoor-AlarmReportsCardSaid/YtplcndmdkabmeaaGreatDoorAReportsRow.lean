/- The law AlarmReports: whatever it is handed it returns true, and its argument reads as it did. Conditions: none. -/
import Derived.Test.YtplcndmdkabmeaaGreatDoorOpn
import Derived.Test.YtplcndmdkabmeaaGreatDoorTie
import Derived.Test.YtplcndmdkabmeaaGreatDoorCards
import Derived.ChangeVars
import Derived.JoinedOf
import Derived.LaidLaws
import Derived.LaidMore
import Derived.Stop.LaidErr
import Derived.Stop.Joined
import Derived.MakeChecks
import Derived.Shelf.Vars
import Derived.ShutString
import Derived.ChangeMaps5
import Derived.Test.YtplcndmdkabmeaaGreatDoorShaped
import Derived.SevenTiedAt
import Derived.Test.YtplcndmdkabmeaaGreatDoorAlmW
set_option linter.unusedSimpArgs false
set_option linter.unusedVariables false
set_option maxRecDepth 100000
set_option maxHeartbeats 1600000
namespace Go.Proofs.YtplcndmdkabmeaaGreatDoor.alarmReports
open Go.RowKit
open Go.ChangeShapes Go.WideShapes Go.ChangeAt Go.RowKit Go.Deep Go.Joins
theorem own:ownKnob Tryz.prog.godebug=none:=by kernel_rfl
theorem laid:laidOutB Tryz.prog=true:=by kernel_rfl
theorem zcp : "*" ++ "errors.errorString" = "*errors.errorString" := by decide
theorem zeN (u : TypeId) (h : Tryz.prog.typeName? 3 u = some "*errors.errorString") : u = 288 :=
 typeName_ptr_named (nm := "errors.errorString") (by rw [zcp]; kernel_rfl) (by kernel_rfl) (by decide) u (by rw [zcp]; exact h)
noncomputable def zeO (os:Os):World:=
 let w:=World.doorLaid Tryz.prog 72 os
 { w with heap:=w.heap.modify 6 fun
  | .cells _ t frozen=>.cells (Pinned.utf8FirstZ.map fun (z:Nat)=>Value.int .u8 (Int.ofNat z)).toArray t frozen
  | o=>o }
abbrev L:List (String × DataW Unit):=Rows.alarmReportsRow.laid
theorem zeP (os:Os) (args:Array Value):laidMetH Tryz.prog L ((zeO os).forCall (fun _ _=>0) ⟨#[],args,[]⟩).memory:=
 laidMetH_of_parts3 (fuel:=8) (laidMet_of_run' 8 (by kernel_rfl) (by kernel_rfl)) (by kernel_rfl) (by kernel_rfl)
theorem lifted (os:Os) (started:os.Started) (H:Type) (enc:TypeId × Value→H):
  ReturnsInHanded {} Tryz.checked os 3 .any (fun w args=>(Rows.alarmReportsSpec.pre enc Tryz.prog Tryz.f3 [] false w args∧laidMetH Tryz.prog L w)∧sizedMet enc Tryz.prog Tryz.f3 (OpenSpec.ofChange Rows.alarmReportsSpec) false w args)
   (Rows.alarmReportsSpec.post enc Tryz.prog Tryz.f3 false true false false):=by
 refine Gy (C:=Tryz.checked) (X:=fun w _=>laidMetH Tryz.prog L w) (fun _ _ _ hh h=>h.of_heap hh) own started (by kernel_rfl) Tryz.func3
  (ChangeSpec.witness_shaped (enc:=enc) (C:=Tryz.checked) (os:=os) (X:=fun w _=>laidMetH Tryz.prog L w) false (zeO os) #[.string ⟨#[]⟩] 8 rfl (World.shaped_of_RefB (by kernel_rfl) (by kernel_rfl)) (by kernel_rfl) (by kernel_rfl) (by kernel_rfl) (zeP os _)) ?_
 intro W base args ds gs before hval0 hW hz hL hSh
 have hval:∀ (j:Nat) t v,Tryz.f3.params[j]? = some t→args[j]? = some v→Value.okWide Tryz.prog W .any base t v:=hval0
 have hW':=hW
 have hlt:∀ p∈before,p.block<W.heap.size:=fun p hp=>hW.lt p hp
 obtain⟨p,q,hA0,hV,rfl,hfz,hnd⟩:=hW
 have hA:DataW.TrodAll enc Tryz.prog W 0 (fun _=>true) true Tryz.f3.params.toList args.toList ds p:=hA0
 have hAll:=hA
 rw[Tryz.params3]at hA hval hz
 rw[MakeChecks.laidMetH_plain _ _ _ (by kernel_rfl)]at hL
 have HPW:zcY W:=Lib.tabIs_of_head (g:=1) (k:=.u64) (zs:=Lib.pow10Tab) (by kernel_rfl) (by kernel_rfl) Tryz.underlying245 Tryz.underlying208 (by kernel_rfl) (by kernel_rfl) hL.tail.tail
 obtain⟨a0,t0,hv0,-⟩:=laid_sentinel (g:=3) hL.tail.tail.tail.tail (by kernel_rfl) (by kernel_rfl) Tryz.underlying204 zeN Tryz.underlying288 Tryz.underlying290 rfl rfl Tryz.underlying9 (by kernel_rfl) (by kernel_rfl)
 obtain⟨a1,t1,hv1,-⟩:=laid_sentinel (g:=2) hL.tail.tail.tail.tail.tail (by kernel_rfl) (by kernel_rfl) Tryz.underlying204 zeN Tryz.underlying288 Tryz.underlying290 rfl rfl Tryz.underlying9 (by kernel_rfl) (by kernel_rfl)
 have HG:yI W:=⟨HPW,Go.Proofs.cell_of_shapedOpen_int (zero:=#[.int .i64 0]) (t:=3) hSh (of_decide_eq_true (by kernel_rfl)) (by kernel_rfl) rfl (by kernel_rfl) (by kernel_rfl) Tryz.underlying3,⟨_,Gz (by kernel_rfl) hv1,Or.inr ⟨_,_,rfl⟩⟩,⟨_,Gz (by kernel_rfl) hv0,Or.inr ⟨_,_,rfl⟩⟩⟩
 obtain⟨v0,vs0,d0,ds0,p0,q0,hargs,rfl,hp0,h0,r0⟩:=trodAll_cons hA
 obtain⟨rfl,rfl,hpn⟩:=trodAll_nil r0
 obtain rfl:args=#[v0]:=by cases args;simp_all
 obtain⟨rfl,rfl⟩:=trodVars_none hV
 have key:Calls Tryz.prog 3 #[v0] W fun e w'=>e=.returned (.bool true)∧Below W.heap.size W w':=by
  obtain⟨s,rfl,-,-,ws⟩:=Go.ChangeMaps.open_string Tryz.underlying9 (hval 0 9 v0 rfl rfl) h0
  exact GP s (by unfold maxLen at ws;omega) W HG
 refine key.mono fun e W' ⟨he,hb⟩=>?_
 subst he
 have hargs:∀ sp:Nat→Bool,(∀ x∈p,sp x.block=true)→DataW.TrodAll enc Tryz.prog W' 0 sp true Tryz.f3.params.toList [v0] [d0] p:=fun sp hsp=>
  YC laid _ _ _ _ (by kernel_rfl) hAll (fun x hx=>hb.same (hlt x (List.mem_append_left _ hx))) hsp
 exact⟨_,rfl,VX (pa:=p) (pv:=[]) hW' (fun _ _ _=>(trodAll_cons_mk (shut_bool Tryz.underlying4 _) trodAll_mk0)) (fun sp hsp=>hargs sp (fun x hx=>hsp x (List.mem_append_left _ hx))) (fun _ _=>rfl) rfl hb
  (ok_one (by kernel_rfl) rfl (okWide_bool_mk Tryz.underlying4 _))⟩
theorem over:Rows.AlarmReportsSaid:=
 OpenClaim.holds_of_wide 3 Tryz.f3 rfl rfl rfl rfl rfl rfl rfl ⟨rfl,rfl,rfl,rfl,rfl⟩ rfl rfl rfl rfl rfl (by kernel_rfl) Tryz.func3 (by kernel_rfl)
  (of_decide_eq_true (by kernel_rfl)) (by unfold Func.isWrapper;first|(rw[if_pos (by decide +kernel)];kernel_rfl)|(rw[if_neg (by decide +kernel)];exact⟨rfl,rfl⟩))
  (fun os started H enc _=>lifted os started H enc)
theorem proved:Rows.AlarmReportsCardSaid:=
 Claim7.holds_tied_plain_at .later [] [.data, .data, .data, .data, .sentinel, .sentinel, .pinned] true (true, "cdd9539185f9c30fa0bcb40efb1156d3300fba351d55f9efc346343542ee8cf2") true
  over (fun _ h=>by cases h) (by kernel_rfl) (fun _ h=>by cases h) alarmReports_row_tie rfl ⟨rfl,rfl⟩ (by kernel_rfl) rfl
  (fun f fn hf hfn=>by
   obtain rfl : f = 3 := Option.some.inj ((show Tryz.prog.funcNamed "soundings/soundingslaw.AlarmReports" = some 3 by kernel_rfl).symm.trans hf) |>.symm
   obtain rfl:fn=Tryz.f3:=(Option.some.inj (Tryz.func3.symm.trans hfn)).symm
   exact⟨by kernel_rfl,fun j t ht=>by
    rw[Tryz.params3]at ht
    have hm:t∈[9]:=by simpa using Array.mem_of_getElem? ht
    have hall:([9].all fun u=>!Tryz.prog.wantsStandIn u)=true:=by kernel_rfl
    exact(show Tryz.prog.wantsStandIn t=false by simpa using List.all_eq_true.1 hall t hm)⟩)
  (by kernel_rfl)
end Go.Proofs.YtplcndmdkabmeaaGreatDoor.alarmReports
