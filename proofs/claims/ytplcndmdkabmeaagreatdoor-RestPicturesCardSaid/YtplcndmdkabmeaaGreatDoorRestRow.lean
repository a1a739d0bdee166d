/- The law RestPictures: whatever it is handed it returns true, and its arguments read as they did. Conditions: none. -/
import Derived.Test.YtplcndmdkabmeaaGreatDoorOpn
import Derived.Test.YtplcndmdkabmeaaGreatDoorTie
import Derived.Test.YtplcndmdkabmeaaGreatDoorCards
import Derived.ChangeVars
import Derived.JoinedOf
import Derived.LaidLaws
import Derived.LaidMore
import Derived.Stop.LaidErr
import Derived.Stop.Joined
import Derived.MakeChecks
import Derived.SevenTiedAt
import Derived.Test.YtplcndmdkabmeaaGreatDoorOpenW
import Derived.Test.YtplcndmdkabmeaaGreatDoorRestL
set_option linter.unusedSimpArgs false
set_option linter.unusedVariables false
set_option maxRecDepth 100000
set_option maxHeartbeats 1600000
namespace Go.Proofs.YtplcndmdkabmeaaGreatDoor.restPictures
open Go.RowKit
open Go.ChangeShapes Go.WideShapes Go.ChangeAt Go.RowKit Go.Deep Go.Joins
theorem own:ownKnob Tryz.prog.godebug=none:=by kernel_rfl
theorem G2 {H:Type}{W:World}{o C:List TypeId}{ds g:List (DataW H)}{j:Nat}{t:TypeId}{d:DataW H}{i p:List MemPlace}(P:W.noneFrozen p) (hz:(DataW.weightsEach Tryz.prog (o++C) (ds++g)).all (·<=reachBytes)=true) (ht:(o++C)[j]? = some t) (I:(ds++g)[j]? = some d) (R:∀ x∈i,x∈p):Qp W Tryz.prog 140737488351232 t (d,i):=
 ⟨fun b off h=>P b off (R _ h),fun y T=>of_decide_eq_true (List.all_eq_true.1 hz y (zac ht I y T))⟩
theorem laid:laidOutB Tryz.prog=true:=by kernel_rfl
abbrev L:List (String × DataW Unit):=Rows.restPicturesRow.laid
theorem zgb (os:Os) (args:Array Value):laidMetH Tryz.prog L ((World.doorLaid Tryz.prog 72 os).forCall (fun _ _=>0) ⟨#[],args,[]⟩).memory:=
 laidMetH_of_parts3 (fuel:=8) (laidMet_of_run' 8 (by kernel_rfl) (by kernel_rfl)) (by kernel_rfl) (by kernel_rfl)
theorem lifted (os:Os) (aT:os.Started) (H:Type) (enc:TypeId × Value->H):
  ReturnsInHanded {} Tryz.checked os 5 .any (fun w args=>(Rows.restPicturesSpec.pre enc Tryz.prog Tryz.f5 [] false w args∧laidMetH Tryz.prog L w)∧sizedMet enc Tryz.prog Tryz.f5 (OpenSpec.ofChange Rows.restPicturesSpec) false w args)
   (Rows.restPicturesSpec.post enc Tryz.prog Tryz.f5 false true false false):=by
 refine returnsInHanded_of_change_and (C:=Tryz.checked) (X:=fun w _=>laidMetH Tryz.prog L w) (fun _ _ _ aD h=>h.of_heap aD) own aT (by kernel_rfl) Tryz.func5
  (ChangeSpec.witness_shaped (enc:=enc) (C:=Tryz.checked) (os:=os) (X:=fun w _=>laidMetH Tryz.prog L w) false (World.doorLaid Tryz.prog 72 os) #[.agg #[.int .i64 0,.int .i64 0,.slice none 0 0],.int .i64 0,.agg #[.bool false,.slice none 0 0,.slice none 0 0],.agg #[.bool false,.slice none 0 0,.slice none 0 0],.agg #[.int .i64 0,.slice none 0 0,.slice none 0 0,.int .i64 0,.slice none 0 0,.int .i64 0]] 8 rfl (World.shaped_of_RefB (by kernel_rfl) (by kernel_rfl)) (by kernel_rfl) (by kernel_rfl) (by kernel_rfl) (zgb os _)) ?_
 intro W base args av bh an aL ab _ R J _;have o:∀ (j:Nat) t v,Tryz.f5.params[j]? = some t->args[j]? = some v->Value.okWide Tryz.prog W .any base t v:=aL;have aA:=ab;have aE:∀ i∈an,i.block<W.heap.size:=fun i aH=>ab.lt i aH
 obtain⟨i,q,a7,a9,rfl,ac,bi⟩:=ab;have aa:DataW.TrodAll enc Tryz.prog W 0 (fun _=>true) true Tryz.f5.params.toList args.toList av i:=a7;have a8:=aa;rw[Tryz.params5]at aa o R;rw[MakeChecks.laidMetH_plain _ _ _ (by kernel_rfl)]at J;have ak:ZO W:=Lib.tabIs_of_head (g:=1) (k:=.u64) (zs:=Lib.pow10Tab) (by kernel_rfl) (by kernel_rfl) Tryz.underlying245 Tryz.underlying208 (by kernel_rfl) (by kernel_rfl) J.tail.tail;obtain⟨v0,bu,d0,aY,bk,bp,ah,rfl,ad,a2,aN⟩:=trodAll_cons aa;obtain⟨v1,bv,d1,aZ,bl,bq,rfl,rfl,ae,a3,aO⟩:=trodAll_cons aN;obtain⟨T,bw,d2,ba,bm,br,rfl,rfl,af,a4,aP⟩:=trodAll_cons aO;obtain⟨U,bx,d3,bb,bn,bs,rfl,rfl,aj,a5,aQ⟩:=trodAll_cons aP;obtain⟨v4,bz,d4,bc,bo,bt,rfl,rfl,aI,a6,aR⟩:=trodAll_cons aQ;obtain⟨rfl,rfl,bj⟩:=trodAll_nil aR;obtain rfl:args=#[v0,v1,T,U,v4]:=by cases args;simp_all
 obtain⟨rfl,rfl⟩:=trodVars_none a9;have key:Calls Tryz.prog 5 #[v0,v1,T,U,v4] W fun e aW=>e=.returned (.bool true)∧Below W.heap.size W aW:=by
  obtain⟨ao,bd,rfl,t0⟩:=QH Tryz.underlying27 (o 0 27 v0 rfl rfl) a2;obtain⟨p,is,ay,aF,aB⟩:=zdy t0;obtain rfl:ao=#[.int .i64 p.vars,.int .i64 p.fields,.slice p.pc p.n p.cap]:=by rw[<- Array.toList_inj];exact ay
  obtain⟨k,rfl,-,-,b0⟩:=open_int Tryz.underlying3 (o 1 3 v1 rfl rfl) a3;obtain⟨aq,be,rfl,t2⟩:=QH Tryz.underlying54 (o 2 54 T rfl rfl) a4;obtain⟨x,aw,az,P,aU⟩:=XG t2 (G2 ac R (j:=2) rfl rfl (fun a I=>by simp[ad,ae,af,I]));obtain rfl:aq=#[.bool x.none,.slice x.vars.p x.vars.n x.vars.cap,.slice x.fields.p x.fields.n x.fields.cap]:=by rw[<- Array.toList_inj];exact az
  obtain⟨ar,bf,rfl,t3⟩:=QH Tryz.underlying54 (o 3 54 U rfl rfl) a5;obtain⟨y,ax,a0,aM,aV⟩:=XG t3 (G2 ac R (j:=3) rfl rfl (fun a I=>by simp[ad,ae,af,aj,I]));obtain rfl:ar=#[.bool y.none,.slice y.vars.p y.vars.n y.vars.cap,.slice y.fields.p y.fields.n y.fields.cap]:=by rw[<- Array.toList_inj];exact a0
  obtain⟨au,bg,rfl,t4⟩:=QH Tryz.underlying46 (o 4 46 v4 rfl rfl) a6;obtain⟨r,s,a1,aJ,aK,aS⟩:=zdM t4 (G2 ac R (j:=4) rfl rfl (fun a I=>by simp[ad,ae,af,aj,aI,I]));obtain rfl:au=#[.int .i64 r.at',.slice r.vars.p r.vars.n r.vars.cap,.slice r.things.p r.things.n r.things.cap,.int .i64 r.taken,.slice r.lines.p r.lines.n r.lines.cap,.int .i64 r.ending]:=by rw[<- Array.toList_inj];exact a1
  exact zeH p is k x y aw ax r s W aF aB P aM aU aV aJ aK aS ak
 refine key.mono fun e al ⟨aC,ai⟩=>?_
 subst aC;have ah:∀ sp:Nat->Bool,(∀ x∈i,sp x.block=true)->DataW.TrodAll enc Tryz.prog al 0 sp true Tryz.f5.params.toList [v0,v1,T,U,v4] [d0,d1,d2,d3,d4] i:=fun sp ag=>
  Yk laid _ _ _ _ (by kernel_rfl) a8 (fun x P=>ai.same (aE x (List.mem_append_left _ P))) ag
 exact⟨_,rfl,Xj (pa:=i) (pv:=[]) aA (fun _ _ _=>(trodAll_cons_mk (shut_bool Tryz.underlying4 _) trodAll_mk0)) (fun sp ag=>ah sp (fun x P=>ag x (List.mem_append_left _ P))) (fun _ _=>rfl) rfl ai
  (ok_one (by kernel_rfl) rfl (okWide_bool_mk Tryz.underlying4 _))⟩
theorem over:Rows.RestPicturesSaid:=
 OpenClaim.holds_of_wide 5 Tryz.f5 rfl rfl rfl rfl rfl rfl rfl ⟨rfl,rfl,rfl,rfl,rfl⟩ rfl rfl rfl rfl rfl (by kernel_rfl) Tryz.func5 (by kernel_rfl)
  (of_decide_eq_true (by kernel_rfl)) (by unfold Func.isWrapper;first|(rw[if_pos (by decide +kernel)];kernel_rfl)|(rw[if_neg (by decide +kernel)];exact⟨rfl,rfl⟩))
  (fun i j H g _=>lifted i j H g)
theorem proved:Rows.RestPicturesCardSaid:=
 Claim7.holds_tied_plain_at .later [] [.data, .data, .data] true (true, "cdd9539185f9c30fa0bcb40efb1156d3300fba351d55f9efc346343542ee8cf2") true
  over (fun _ h=>by cases h) (by kernel_rfl) (fun _ h=>by cases h) restPictures_row_tie rfl ⟨rfl,rfl⟩ (by kernel_rfl) rfl
  (fun f fn o p=>by
   obtain rfl : f = 5 := Option.some.inj ((show Tryz.prog.funcNamed "soundings/soundingslaw.RestPictures" = some 5 by kernel_rfl).symm.trans o) |>.symm
   obtain rfl:fn=Tryz.f5:=(Option.some.inj (Tryz.func5.symm.trans p)).symm;exact⟨by kernel_rfl,fun C g i=>by
    rw[Tryz.params5]at i;have t:g∈[27,3,54,46]:=by simpa using Array.mem_of_getElem? i
    have j:([27,3,54,46].all fun u=>!Tryz.prog.wantsStandIn u)=true:=by kernel_rfl
    exact(show Tryz.prog.wantsStandIn g=false by simpa using List.all_eq_true.1 j g t)⟩)
  (by kernel_rfl)
end Go.Proofs.YtplcndmdkabmeaaGreatDoor.restPictures
