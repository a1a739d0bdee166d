/- The walks over the machine's step, kind by kind. Conditions: what a right program and a right run have. -/
import Derived.Test.YtplcndmdkabmeaaGreatDoorRunN
set_option linter.unusedSimpArgs false
set_option linter.unusedVariables false
set_option maxRecDepth 100000
set_option maxHeartbeats 2000000
namespace Go.Proofs.YtplcndmdkabmeaaGreatDoor
open Go.Proofs.Tryz
open Go.RowKit
theorem zhF (a b:Vl) (w:World):(binOp .eql 77 (.agg #[.int .i64 a.kind,.int .i64 a.n]) (.agg #[.int .i64 b.kind,.int .i64 b.n])).run prog w=.ok (.bool (a.kind==b.kind&&a.n==b.n)) w:=by
 cases g:(a.kind==b.kind)<;>cases i:(a.n==b.n)
 all_goals
  go_simp
  try simp_all
theorem zdK (x y:Operand) (a b:Vl) (w:World):(eqGuard .eql 77 x y (.agg #[.int .i64 a.kind,.int .i64 a.n]) (.agg #[.int .i64 b.kind,.int .i64 b.n])).run prog w=.ok () w:=by
 go_simp
def XE (a b:Vl):Bool:=a.kind==b.kind&&a.n==b.n
theorem zdL {ops:Array Oper}{Q:Exit->Act->World->Prop}{g:Act}{w:World}{rest:List Oper}{d:Option Tmp}{ty u:TypeId}{pos:String}{after:Array Edge}{x y:Operand}{a b:Vl}(ha:g.eval x=a.v) (hb:g.eval y=b.v)
  (h:wpList prog ops Q rest (g.put d (.bool (XE a b))) w):wpList prog ops Q (⟨d,.binOp .eql 77 x y u,ty,pos,after,none⟩::rest) g w:=by
 refine YK (w':=w) ?_ ?_ h
 ·rw[ha,hb];exact zdK x y a b w
 ·rw[ha,hb];exact zhF a b w
theorem zhG (w0:World) (bm:Nat) (p:Pg) (is:Nat->Ins) (ins:Sl) (s:Rs) (k:Nat) (t:Nat) (ax:Int) (ay:Int) (num goto:Int) (w:World) (h:zY w0 bm p ins s w) (hk:s.at'=k) (hkn:k<p.n) (hk6:p.n<=60) (hc:zy w0 p is) (hv:0<s.vars.length) (hi:is k=⟨1,(t:Int),ax,ay,num,goto⟩) (ht:t<s.vars.length)  :
  Calls prog 47 #[.pointer (some ⟨bm,0,none⟩)] w fun e i=>e=.returned (.tuple #[])∧zY w0 bm p ins (s.set t ⟨1,num⟩) i:=by
 obtain⟨r,a3,a5,P,I,C,hR,J⟩:=h;have aw:=hR.vars.flatlen jc (by decide);obtain⟨aa,T,ag,rfl,av,au⟩:=hR.vars.block (by omega);simp only[aX]at J;have ao:=za ht;have ab:0<=s.at'∧s.at'<=1000000:=by omega
 have ak:=za ab;have ah:r.at'=(k:Int):=hR.a.trans hk;have an:=za hR;have al:=za (fun (i : World) (J:Loc w0 i ((bm,100,q8 p r ins)::(aa,77,T)::(P++(I++C))) [])=>(⟨r,a3,[(aa,77,T)],P,I,C,an.out,J⟩:zY w0 bm p ins s i));obtain⟨aq,az,ae,ad⟩:=hc.reads;have af:=ae (by omega);have j:=ad k hkn;rw[hi]at j;have o:=za j;clear hR aw av au ad ae j hi hc hk ab ht;obtain⟨a2,a1,a9,aj,a0⟩:=p;dsimp only at af hkn hk6;subst af;obtain⟨aA,⟨aI,aH,aF⟩,aE,aC,aD,aB⟩:=r;dsimp only at ag ah;subst ag;subst ah;have a8:((k:Int)==(aj:Int))=false:=by simp;omega
 go_enter func47,ntmps47;go_upto_region 0 with(fail)
 refine zb [5,6,7,8,9,10,11,12,13,14,15,16] ?_
 iterate 12 refine qdv ?_
 refine dnd J ?_;clear J;intro a4 J;simp only[zr,sTa,sTb];go_upto_region 2 with(fail)
 refine zb [19,20,21,22,23,24,25,26,27,28,29,30,2] ?_
 iterate 11 refine qdv ?_
 refine qdl o.out ?_;refine qdp ?_;refine qy J ?_;intro g aJ ac hR q;simp only[aG]at q;obtain⟨a6,ai,U,R⟩:=qye hR 12;clear hR;simp only[fD];simp only[q,U];clear q U;replace J:=J.gain ac ai R;clear ai R;clear ac;clear o;go_wp2_with (first|(with_reducible first|refine lld J ?_|(refine zc J ?_;clear J;intro a4 J))|(go_at_call 88;refine(j6 w0 bm ⟨a2,a1,some ⟨aq,az,none⟩,aj,a0⟩ ins s t ⟨_,_⟩ _ (al.out _ (J.drop (by repeat (first|exact List.Sublist.refl _|apply List.Sublist.cons)) (fun _ h=>h))) ao.out ak.out).mono ?_;rintro e aK ⟨rfl,ar⟩;dsimp only))
 (try simp only[Exit.inBlock,Exit.then]);(first|refine qv rfl rfl ?_|refine qw rfl rfl ?_)
 exact⟨rfl,ar⟩
theorem zhH (w0:World) (bm:Nat) (p:Pg) (is:Nat->Ins) (ins:Sl) (s:Rs) (k:Nat) (t:Nat) (ax:Int) (ay:Int) (num goto:Int) (w:World) (h:zY w0 bm p ins s w) (hk:s.at'=k) (hkn:k<p.n) (hk6:p.n<=60) (hc:zy w0 p is) (hv:0<s.vars.length) (hi:is k=⟨2,(t:Int),ax,ay,num,goto⟩) (ht:t<s.vars.length)  :
  Calls prog 47 #[.pointer (some ⟨bm,0,none⟩)] w fun e i=>e=.returned (.tuple #[])∧zY w0 bm p ins (s.set t (jW (num==1))) i:=by
 obtain⟨r,a3,a5,R,P,I,hR,J⟩:=h;have aw:=hR.vars.flatlen jc (by decide);obtain⟨ab,U,ag,rfl,av,au⟩:=hR.vars.block (by omega);simp only[aX]at J;have ao:=za ht;have ac:0<=s.at'∧s.at'<=1000000:=by omega
 have ak:=za ac;have ah:r.at'=(k:Int):=hR.a.trans hk;have an:=za hR;have al:=za (fun (i : World) (J:Loc w0 i ((bm,100,q8 p r ins)::(ab,77,U)::(R++(P++I))) [])=>(⟨r,a3,[(ab,77,U)],R,P,I,an.out,J⟩:zY w0 bm p ins s i));obtain⟨aq,az,ae,ad⟩:=hc.reads;have af:=ae (by omega);have j:=ad k hkn;rw[hi]at j;have C:=za j;clear hR aw av au ad ae j hi hc hk ac ht;obtain⟨a2,a1,a9,aj,a0⟩:=p;dsimp only at af hkn hk6;subst af;obtain⟨aA,⟨aI,aH,aF⟩,aE,aC,aD,aB⟩:=r;dsimp only at ag ah;subst ag;subst ah;have a8:((k:Int)==(aj:Int))=false:=by simp;omega
 go_enter func47,ntmps47;go_upto_region 0 with(fail)
 refine zb [5,6,7,8,9,10,11,12,13,14,15,16] ?_
 iterate 12 refine qdv ?_
 refine dnd J ?_;clear J;intro a4 J;simp only[zr,sTa,sTb];go_upto_region 2 with(fail)
 refine zb [19,20,21,22,23,24,25,26,27,28,29,30,2] ?_
 iterate 11 refine qdv ?_
 refine qdl C.out ?_;refine qdp ?_;refine qy J ?_;intro g aJ o hR q;simp only[aG]at q;obtain⟨a6,ai,aa,T⟩:=qye hR 12;clear hR;simp only[fD];simp only[q,aa];clear q aa;replace J:=J.gain o ai T;clear ai T;clear o;clear C;go_upto_region 8 with(with_reducible first|refine lld J ?_|(refine zc J ?_;clear J;intro a4 J))
 refine zb [47,48,49,50,51,52,53] ?_
 iterate 6 refine qdv ?_
 refine qdk J (fun _ o J=>Z4 _ _) ?_;refine dnd J ?_;clear J;intro aL J;simp only[zr,sTa,sTb];go_wp2_with (first|fail|(go_at_call 88;refine(j6 w0 bm ⟨a2,a1,some ⟨aq,az,none⟩,aj,a0⟩ ins s t (jW _) _ (al.out _ (J.drop (by repeat (first|exact List.Sublist.refl _|apply List.Sublist.cons)) (fun _ h=>h))) ao.out ak.out).mono ?_;rintro e aK ⟨rfl,ar⟩;dsimp only))
 (try simp only[Exit.inBlock,Exit.then]);(first|refine qv rfl rfl ?_|refine qw rfl rfl ?_)
 exact⟨rfl,ar⟩
theorem zhI (w0:World) (bm:Nat) (p:Pg) (is:Nat->Ins) (ins:Sl) (s:Rs) (k:Nat) (t:Nat) (ax:Int) (ay:Int) (num goto:Int) (w:World) (h:zY w0 bm p ins s w) (hk:s.at'=k) (hkn:k<p.n) (hk6:p.n<=60) (hc:zy w0 p is) (hv:0<s.vars.length) (hi:is k=⟨3,(t:Int),ax,ay,num,goto⟩) (ht:t<s.vars.length)  :
  Calls prog 47 #[.pointer (some ⟨bm,0,none⟩)] w fun e i=>e=.returned (.tuple #[])∧zY w0 bm p ins (s.set t dV) i:=by
 obtain⟨r,a3,a5,P,I,C,hR,J⟩:=h;have aw:=hR.vars.flatlen jc (by decide);obtain⟨aa,T,ag,rfl,av,au⟩:=hR.vars.block (by omega);simp only[aX]at J;have ao:=za ht;have ab:0<=s.at'∧s.at'<=1000000:=by omega
 have ak:=za ab;have ah:r.at'=(k:Int):=hR.a.trans hk;have an:=za hR;have al:=za (fun (i : World) (J:Loc w0 i ((bm,100,q8 p r ins)::(aa,77,T)::(P++(I++C))) [])=>(⟨r,a3,[(aa,77,T)],P,I,C,an.out,J⟩:zY w0 bm p ins s i));obtain⟨aq,az,ae,ad⟩:=hc.reads;have af:=ae (by omega);have j:=ad k hkn;rw[hi]at j;have o:=za j;clear hR aw av au ad ae j hi hc hk ab ht;obtain⟨a2,a1,a9,aj,a0⟩:=p;dsimp only at af hkn hk6;subst af;obtain⟨aA,⟨aI,aH,aF⟩,aE,aC,aD,aB⟩:=r;dsimp only at ag ah;subst ag;subst ah;have a8:((k:Int)==(aj:Int))=false:=by simp;omega
 go_enter func47,ntmps47;go_upto_region 0 with(fail)
 refine zb [5,6,7,8,9,10,11,12,13,14,15,16] ?_
 iterate 12 refine qdv ?_
 refine dnd J ?_;clear J;intro a4 J;simp only[zr,sTa,sTb];go_upto_region 2 with(fail)
 refine zb [19,20,21,22,23,24,25,26,27,28,29,30,2] ?_
 iterate 11 refine qdv ?_
 refine qdl o.out ?_;refine qdp ?_;refine qy J ?_;intro g aJ ac hR q;simp only[aG]at q;obtain⟨a6,ai,U,R⟩:=qye hR 12;clear hR;simp only[fD];simp only[q,U];clear q U;replace J:=J.gain ac ai R;clear ai R;clear ac;clear o;go_wp2_with (first|(with_reducible first|refine lld J ?_|(refine zc J ?_;clear J;intro a4 J))|(go_at_call 88;refine(j6 w0 bm ⟨a2,a1,some ⟨aq,az,none⟩,aj,a0⟩ ins s t dV _ (al.out _ (J.drop (by repeat (first|exact List.Sublist.refl _|apply List.Sublist.cons)) (fun _ h=>h))) ao.out ak.out).mono ?_;rintro e aK ⟨rfl,ar⟩;dsimp only))
 (try simp only[Exit.inBlock,Exit.then]);(first|refine qv rfl rfl ?_|refine qw rfl rfl ?_)
 exact⟨rfl,ar⟩
theorem zhJ (w0:World) (bm:Nat) (p:Pg) (is:Nat->Ins) (ins:Sl) (s:Rs) (k:Nat) (t:Nat) (a:Nat) (a2:Int) (num goto:Int) (w:World) (h:zY w0 bm p ins s w) (hk:s.at'=k) (hkn:k<p.n) (hk6:p.n<=60) (hc:zy w0 p is) (hv:0<s.vars.length) (hi:is k=⟨4,(t:Int),(a:Int),a2,num,goto⟩) (ht:t<s.vars.length) (ha:a<s.vars.length)  :
  Calls prog 47 #[.pointer (some ⟨bm,0,none⟩)] w fun e i=>e=.returned (.tuple #[])∧zY w0 bm p ins (s.set t (s.val a)) i:=by
 obtain⟨r,a7,aA,T,R,P,hR,J⟩:=h;have a1:=hR.vars.flatlen jc (by decide);obtain⟨ab,j,ah,rfl,a0,az⟩:=hR.vars.block (by omega);simp only[aX]at J;obtain⟨al,C⟩:∃ x,x=s.val a:=⟨_,rfl⟩;have an:=za (show zn prog 77 j (a*2) al.v by rw[C];exact zn.agg jk (hR.vars.elem jc dV (k:=a) (by omega)) rfl);have aq:=za C;have ay:a<r.vars.n:=by omega
 have av:=za ht;have a9:=za ha;have ac:0<=s.at'∧s.at'<=1000000:=by omega
 have ao:=za ac;have ai:r.at'=(k:Int):=hR.a.trans hk;have au:=za hR;have ar:=za (fun (i : World) (J:Loc w0 i ((bm,100,q8 p r ins)::(ab,77,j)::(T++(R++P))) [])=>(⟨r,a7,[(ab,77,j)],T,R,P,au.out,J⟩:zY w0 bm p ins s i));obtain⟨aw,a3,af,ae⟩:=hc.reads;have ag:=af (by omega);have o:=ae k hkn;rw[hi]at o;have I:=za o;clear hR a1 a0 az ae af o hi hc hk ac ht ha C;obtain⟨a6,a5,aE,ak,a4⟩:=p;dsimp only at ag hkn hk6;subst ag;obtain⟨aF,⟨aN,aM,aL⟩,aK,aI,aJ,aH⟩:=r;dsimp only at ah ai ay;subst ah;subst ai;have aD:((k:Int)==(ak:Int))=false:=by simp;omega
 go_enter func47,ntmps47;go_upto_region 0 with(fail)
 refine zb [5,6,7,8,9,10,11,12,13,14,15,16] ?_
 iterate 12 refine qdv ?_
 refine dnd J ?_;clear J;intro a8 J;simp only[zr,sTa,sTb];go_upto_region 2 with(fail)
 refine zb [19,20,21,22,23,24,25,26,27,28,29,30,2] ?_
 iterate 11 refine qdv ?_
 refine qdl I.out ?_;refine qdp ?_;refine qy J ?_;intro g aO ad hR q;simp only[aG]at q;obtain⟨aB,aj,aa,U⟩:=qye hR 12;clear hR;simp only[fD];simp only[q,aa];clear q aa;replace J:=J.gain ad aj U;clear aj U;clear ad;clear I;go_upto_region 12 with(with_reducible first|refine lld J ?_|(refine zc J ?_;clear J;intro a8 J))
 refine zb [64,65,66,67,68,69,70,71,72,73,74,75] ?_
 iterate 11 refine qdv ?_
 refine yT an.out ?_;refine dnd J ?_;clear J;intro aQ J;simp only[zr,sTa,sTb];go_wp2_with (first|fail|(go_at_call 88;refine(j6 w0 bm ⟨a6,a5,some ⟨aw,a3,none⟩,ak,a4⟩ ins s t al _ (ar.out _ (J.drop (by repeat (first|exact List.Sublist.refl _|apply List.Sublist.cons)) (fun _ h=>h))) av.out ao.out).mono ?_;rintro e aP ⟨rfl,ax⟩;dsimp only))
 (try simp only[Exit.inBlock,Exit.then]);(first|refine qv rfl rfl ?_|refine qw rfl rfl ?_)
 exact⟨rfl,by rw[<- aq.out];exact ax⟩
theorem zhK (w0:World) (bm:Nat) (p:Pg) (is:Nat->Ins) (ins:Sl) (s:Rs) (k:Nat) (t:Nat) (a:Nat) (b:Nat) (num goto:Int) (w:World) (h:zY w0 bm p ins s w) (hk:s.at'=k) (hkn:k<p.n) (hk6:p.n<=60) (hc:zy w0 p is) (hv:0<s.vars.length) (hi:is k=⟨5,(t:Int),(a:Int),(b:Int),num,goto⟩) (ht:t<s.vars.length) (ha:a<s.vars.length) (hb:b<s.vars.length) (hn:((s.val a).kind=1->yA (s.val a).n)∧((s.val b).kind=1->yA (s.val b).n)):
  Calls prog 47 #[.pointer (some ⟨bm,0,none⟩)] w fun e i=>e=.returned (.tuple #[])∧zY w0 bm p ins (jU 5 t a b s) i:=by
 obtain⟨r,a3,a5,R,P,I,hR,J⟩:=h;have ay:=hR.vars.flatlen jc (by decide);obtain⟨ab,U,ag,rfl,ax,aw⟩:=hR.vars.block (by omega);simp only[aX]at J;have ar:=za ht;have ak:=za ha;have an:=za hb;have ac:0<=s.at'∧s.at'<=1000000:=by omega
 have al:=za ac;have ah:r.at'=(k:Int):=hR.a.trans hk;have aq:=za hR;have ao:=za (fun (i : World) (J:Loc w0 i ((bm,100,q8 p r ins)::(ab,77,U)::(R++(P++I))) [])=>(⟨r,a3,[(ab,77,U)],R,P,I,aq.out,J⟩:zY w0 bm p ins s i));obtain⟨au,az,ae,ad⟩:=hc.reads;have af:=ae (by omega);have j:=ad k hkn;rw[hi]at j;have o:=za j;have C:=za hn;clear hn;clear hR ay ax aw ad ae j hi hc hk ac ht ha hb;obtain⟨a2,a1,a9,aj,a0⟩:=p;dsimp only at af hkn hk6;subst af;obtain⟨aA,⟨aI,aH,aF⟩,aE,aC,aD,aB⟩:=r;dsimp only at ag ah;subst ag;subst ah;have a8:((k:Int)==(aj:Int))=false:=by simp;omega
 go_enter func47,ntmps47;go_upto_region 0 with(fail)
 refine zb [5,6,7,8,9,10,11,12,13,14,15,16] ?_
 iterate 12 refine qdv ?_
 refine dnd J ?_;clear J;intro a4 J;simp only[zr,sTa,sTb];go_upto_region 2 with(fail)
 refine zb [19,20,21,22,23,24,25,26,27,28,29,30,2] ?_
 iterate 11 refine qdv ?_
 refine qdl o.out ?_;refine qdp ?_;refine qy J ?_;intro g aJ hb hR q;simp only[aG]at q;obtain⟨a6,ai,aa,T⟩:=qye hR 12;clear hR;simp only[fD];simp only[q,aa];clear q aa;replace J:=J.gain hb ai T;clear ai T;clear hb;clear o;go_wp2_with (first|(with_reducible first|refine lld J ?_|(refine zc J ?_;clear J;intro a4 J))|(go_at_call 90;refine(Z1 w0 bm ⟨a2,a1,some ⟨au,az,none⟩,aj,a0⟩ ins s ⟨_,_,_,_,_,_⟩ t a b _ (ao.out _ (J.drop (by repeat (first|exact List.Sublist.refl _|apply List.Sublist.cons)) (fun _ h=>h))) ⟨rfl,rfl,rfl⟩ ar.out ak.out an.out (by simp) al.out C.out.1 C.out.2).mono ?_;rintro e aK ⟨rfl,av⟩;dsimp only))
 (try simp only[Exit.inBlock,Exit.then]);(first|refine qv rfl rfl ?_|refine qw rfl rfl ?_)
 exact⟨rfl,av⟩
theorem zhL (w0:World) (bm:Nat) (p:Pg) (is:Nat->Ins) (ins:Sl) (s:Rs) (k:Nat) (t:Nat) (a:Nat) (b:Nat) (num goto:Int) (w:World) (h:zY w0 bm p ins s w) (hk:s.at'=k) (hkn:k<p.n) (hk6:p.n<=60) (hc:zy w0 p is) (hv:0<s.vars.length) (hi:is k=⟨6,(t:Int),(a:Int),(b:Int),num,goto⟩) (ht:t<s.vars.length) (ha:a<s.vars.length) (hb:b<s.vars.length) (hn:((s.val a).kind=1->yA (s.val a).n)∧((s.val b).kind=1->yA (s.val b).n)):
  Calls prog 47 #[.pointer (some ⟨bm,0,none⟩)] w fun e i=>e=.returned (.tuple #[])∧zY w0 bm p ins (jU 6 t a b s) i:=by
 obtain⟨r,a3,a5,R,P,I,hR,J⟩:=h;have ay:=hR.vars.flatlen jc (by decide);obtain⟨ab,U,ag,rfl,ax,aw⟩:=hR.vars.block (by omega);simp only[aX]at J;have ar:=za ht;have ak:=za ha;have an:=za hb;have ac:0<=s.at'∧s.at'<=1000000:=by omega
 have al:=za ac;have ah:r.at'=(k:Int):=hR.a.trans hk;have aq:=za hR;have ao:=za (fun (i : World) (J:Loc w0 i ((bm,100,q8 p r ins)::(ab,77,U)::(R++(P++I))) [])=>(⟨r,a3,[(ab,77,U)],R,P,I,aq.out,J⟩:zY w0 bm p ins s i));obtain⟨au,az,ae,ad⟩:=hc.reads;have af:=ae (by omega);have j:=ad k hkn;rw[hi]at j;have o:=za j;have C:=za hn;clear hn;clear hR ay ax aw ad ae j hi hc hk ac ht ha hb;obtain⟨a2,a1,a9,aj,a0⟩:=p;dsimp only at af hkn hk6;subst af;obtain⟨aA,⟨aI,aH,aF⟩,aE,aC,aD,aB⟩:=r;dsimp only at ag ah;subst ag;subst ah;have a8:((k:Int)==(aj:Int))=false:=by simp;omega
 go_enter func47,ntmps47;go_upto_region 0 with(fail)
 refine zb [5,6,7,8,9,10,11,12,13,14,15,16] ?_
 iterate 12 refine qdv ?_
 refine dnd J ?_;clear J;intro a4 J;simp only[zr,sTa,sTb];go_upto_region 2 with(fail)
 refine zb [19,20,21,22,23,24,25,26,27,28,29,30,2] ?_
 iterate 11 refine qdv ?_
 refine qdl o.out ?_;refine qdp ?_;refine qy J ?_;intro g aJ hb hR q;simp only[aG]at q;obtain⟨a6,ai,aa,T⟩:=qye hR 12;clear hR;simp only[fD];simp only[q,aa];clear q aa;replace J:=J.gain hb ai T;clear ai T;clear hb;clear o;go_wp2_with (first|(with_reducible first|refine lld J ?_|(refine zc J ?_;clear J;intro a4 J))|(go_at_call 90;refine(Z1 w0 bm ⟨a2,a1,some ⟨au,az,none⟩,aj,a0⟩ ins s ⟨_,_,_,_,_,_⟩ t a b _ (ao.out _ (J.drop (by repeat (first|exact List.Sublist.refl _|apply List.Sublist.cons)) (fun _ h=>h))) ⟨rfl,rfl,rfl⟩ ar.out ak.out an.out (by simp) al.out C.out.1 C.out.2).mono ?_;rintro e aK ⟨rfl,av⟩;dsimp only))
 (try simp only[Exit.inBlock,Exit.then]);(first|refine qv rfl rfl ?_|refine qw rfl rfl ?_)
 exact⟨rfl,av⟩
theorem zhM (w0:World) (bm:Nat) (p:Pg) (is:Nat->Ins) (ins:Sl) (s:Rs) (k:Nat) (t:Nat) (a:Nat) (b:Nat) (num goto:Int) (w:World) (h:zY w0 bm p ins s w) (hk:s.at'=k) (hkn:k<p.n) (hk6:p.n<=60) (hc:zy w0 p is) (hv:0<s.vars.length) (hi:is k=⟨7,(t:Int),(a:Int),(b:Int),num,goto⟩) (ht:t<s.vars.length) (ha:a<s.vars.length) (hb:b<s.vars.length) (hn:((s.val a).kind=1->yA (s.val a).n)∧((s.val b).kind=1->yA (s.val b).n)):
  Calls prog 47 #[.pointer (some ⟨bm,0,none⟩)] w fun e i=>e=.returned (.tuple #[])∧zY w0 bm p ins (jU 7 t a b s) i:=by
 obtain⟨r,a3,a5,R,P,I,hR,J⟩:=h;have ay:=hR.vars.flatlen jc (by decide);obtain⟨ab,U,ag,rfl,ax,aw⟩:=hR.vars.block (by omega);simp only[aX]at J;have ar:=za ht;have ak:=za ha;have an:=za hb;have ac:0<=s.at'∧s.at'<=1000000:=by omega
 have al:=za ac;have ah:r.at'=(k:Int):=hR.a.trans hk;have aq:=za hR;have ao:=za (fun (i : World) (J:Loc w0 i ((bm,100,q8 p r ins)::(ab,77,U)::(R++(P++I))) [])=>(⟨r,a3,[(ab,77,U)],R,P,I,aq.out,J⟩:zY w0 bm p ins s i));obtain⟨au,az,ae,ad⟩:=hc.reads;have af:=ae (by omega);have j:=ad k hkn;rw[hi]at j;have o:=za j;have C:=za hn;clear hn;clear hR ay ax aw ad ae j hi hc hk ac ht ha hb;obtain⟨a2,a1,a9,aj,a0⟩:=p;dsimp only at af hkn hk6;subst af;obtain⟨aA,⟨aI,aH,aF⟩,aE,aC,aD,aB⟩:=r;dsimp only at ag ah;subst ag;subst ah;have a8:((k:Int)==(aj:Int))=false:=by simp;omega
 go_enter func47,ntmps47;go_upto_region 0 with(fail)
 refine zb [5,6,7,8,9,10,11,12,13,14,15,16] ?_
 iterate 12 refine qdv ?_
 refine dnd J ?_;clear J;intro a4 J;simp only[zr,sTa,sTb];go_upto_region 2 with(fail)
 refine zb [19,20,21,22,23,24,25,26,27,28,29,30,2] ?_
 iterate 11 refine qdv ?_
 refine qdl o.out ?_;refine qdp ?_;refine qy J ?_;intro g aJ hb hR q;simp only[aG]at q;obtain⟨a6,ai,aa,T⟩:=qye hR 12;clear hR;simp only[fD];simp only[q,aa];clear q aa;replace J:=J.gain hb ai T;clear ai T;clear hb;clear o;go_wp2_with (first|(with_reducible first|refine lld J ?_|(refine zc J ?_;clear J;intro a4 J))|(go_at_call 90;refine(Z1 w0 bm ⟨a2,a1,some ⟨au,az,none⟩,aj,a0⟩ ins s ⟨_,_,_,_,_,_⟩ t a b _ (ao.out _ (J.drop (by repeat (first|exact List.Sublist.refl _|apply List.Sublist.cons)) (fun _ h=>h))) ⟨rfl,rfl,rfl⟩ ar.out ak.out an.out (by simp) al.out C.out.1 C.out.2).mono ?_;rintro e aK ⟨rfl,av⟩;dsimp only))
 (try simp only[Exit.inBlock,Exit.then]);(first|refine qv rfl rfl ?_|refine qw rfl rfl ?_)
 exact⟨rfl,av⟩
theorem zhN (w0:World) (bm:Nat) (p:Pg) (is:Nat->Ins) (ins:Sl) (s:Rs) (k:Nat) (t:Nat) (a:Nat) (b:Nat) (num goto:Int) (w:World) (h:zY w0 bm p ins s w) (hk:s.at'=k) (hkn:k<p.n) (hk6:p.n<=60) (hc:zy w0 p is) (hv:0<s.vars.length) (hi:is k=⟨8,(t:Int),(a:Int),(b:Int),num,goto⟩) (ht:t<s.vars.length) (ha:a<s.vars.length) (hb:b<s.vars.length) (hn:((s.val a).kind=1->yA (s.val a).n)∧((s.val b).kind=1->yA (s.val b).n)):
  Calls prog 47 #[.pointer (some ⟨bm,0,none⟩)] w fun e i=>e=.returned (.tuple #[])∧zY w0 bm p ins (jU 8 t a b s) i:=by
 obtain⟨r,a3,a5,R,P,I,hR,J⟩:=h;have ay:=hR.vars.flatlen jc (by decide);obtain⟨ab,U,ag,rfl,ax,aw⟩:=hR.vars.block (by omega);simp only[aX]at J;have ar:=za ht;have ak:=za ha;have an:=za hb;have ac:0<=s.at'∧s.at'<=1000000:=by omega
 have al:=za ac;have ah:r.at'=(k:Int):=hR.a.trans hk;have aq:=za hR;have ao:=za (fun (i : World) (J:Loc w0 i ((bm,100,q8 p r ins)::(ab,77,U)::(R++(P++I))) [])=>(⟨r,a3,[(ab,77,U)],R,P,I,aq.out,J⟩:zY w0 bm p ins s i));obtain⟨au,az,ae,ad⟩:=hc.reads;have af:=ae (by omega);have j:=ad k hkn;rw[hi]at j;have o:=za j;have C:=za hn;clear hn;clear hR ay ax aw ad ae j hi hc hk ac ht ha hb;obtain⟨a2,a1,a9,aj,a0⟩:=p;dsimp only at af hkn hk6;subst af;obtain⟨aA,⟨aI,aH,aF⟩,aE,aC,aD,aB⟩:=r;dsimp only at ag ah;subst ag;subst ah;have a8:((k:Int)==(aj:Int))=false:=by simp;omega
 go_enter func47,ntmps47;go_upto_region 0 with(fail)
 refine zb [5,6,7,8,9,10,11,12,13,14,15,16] ?_
 iterate 12 refine qdv ?_
 refine dnd J ?_;clear J;intro a4 J;simp only[zr,sTa,sTb];go_upto_region 2 with(fail)
 refine zb [19,20,21,22,23,24,25,26,27,28,29,30,2] ?_
 iterate 11 refine qdv ?_
 refine qdl o.out ?_;refine qdp ?_;refine qy J ?_;intro g aJ hb hR q;simp only[aG]at q;obtain⟨a6,ai,aa,T⟩:=qye hR 12;clear hR;simp only[fD];simp only[q,aa];clear q aa;replace J:=J.gain hb ai T;clear ai T;clear hb;clear o;go_wp2_with (first|(with_reducible first|refine lld J ?_|(refine zc J ?_;clear J;intro a4 J))|(go_at_call 90;refine(Z1 w0 bm ⟨a2,a1,some ⟨au,az,none⟩,aj,a0⟩ ins s ⟨_,_,_,_,_,_⟩ t a b _ (ao.out _ (J.drop (by repeat (first|exact List.Sublist.refl _|apply List.Sublist.cons)) (fun _ h=>h))) ⟨rfl,rfl,rfl⟩ ar.out ak.out an.out (by simp) al.out C.out.1 C.out.2).mono ?_;rintro e aK ⟨rfl,av⟩;dsimp only))
 (try simp only[Exit.inBlock,Exit.then]);(first|refine qv rfl rfl ?_|refine qw rfl rfl ?_)
 exact⟨rfl,av⟩
theorem zhO (w0:World) (bm:Nat) (p:Pg) (is:Nat->Ins) (ins:Sl) (s:Rs) (k:Nat) (t:Nat) (a:Nat) (b:Nat) (num goto:Int) (w:World) (h:zY w0 bm p ins s w) (hk:s.at'=k) (hkn:k<p.n) (hk6:p.n<=60) (hc:zy w0 p is) (hv:0<s.vars.length) (hi:is k=⟨9,(t:Int),(a:Int),(b:Int),num,goto⟩) (ht:t<s.vars.length) (ha:a<s.vars.length) (hb:b<s.vars.length)  :
  Calls prog 47 #[.pointer (some ⟨bm,0,none⟩)] w fun e j=>e=.returned (.tuple #[])∧zY w0 bm p ins (s.set t (jW (XE (s.val a) (s.val b)))) j:=by
 obtain⟨r,aB,aF,ab,aa,U,hR,J⟩:=h;have a6:=hR.vars.flatlen jc (by decide);obtain⟨ae,i,aj,rfl,a5,a4⟩:=hR.vars.block (by omega);simp only[aX]at J;obtain⟨P,C⟩:∃ x,x=s.val a:=⟨_,rfl⟩;have ao:=za (show zn prog 77 i (a*2) P.v by rw[C];exact zn.agg jk (hR.vars.elem jc dV (k:=a) (by omega)) rfl);have ar:=za C;have a2:a<r.vars.n:=by omega
 obtain⟨R,I⟩:∃ x,x=s.val b:=⟨_,rfl⟩;have au:=za (show zn prog 77 i (b*2) R.v by rw[I];exact zn.agg jk (hR.vars.elem jc dV (k:=b) (by omega)) rfl);have av:=za I;have a3:b<r.vars.n:=by omega
 have ay:=za ht;have aD:=za ha;have aE:=za hb;have af:0<=s.at'∧s.at'<=1000000:=by omega
 have aq:=za af;have ak:r.at'=(k:Int):=hR.a.trans hk;have ax:=za hR;have aw:=za (fun (j : World) (J:Loc w0 j ((bm,100,q8 p r ins)::(ae,77,i)::(ab++(aa++U))) [])=>(⟨r,aB,[(ae,77,i)],ab,aa,U,ax.out,J⟩:zY w0 bm p ins s j));obtain⟨az,a7,ah,ag⟩:=hc.reads;have ai:=ah (by omega);have o:=ag k hkn;rw[hi]at o;have T:=za o;clear hR a6 a5 a4 ag ah o hi hc hk af ht ha hb C I;obtain⟨aA,a9,aJ,an,a8⟩:=p;dsimp only at ai hkn hk6;subst ai;obtain⟨aK,⟨aR,aQ,aP⟩,aO,aM,aN,aL⟩:=r;dsimp only at aj ak a2 a3;subst aj;subst ak;have aI:((k:Int)==(an:Int))=false:=by simp;omega
 go_enter func47,ntmps47;go_upto_region 0 with(fail)
 refine zb [5,6,7,8,9,10,11,12,13,14,15,16] ?_
 iterate 12 refine qdv ?_
 refine dnd J ?_;clear J;intro aC J;simp only[zr,sTa,sTb];go_upto_region 2 with(fail)
 refine zb [19,20,21,22,23,24,25,26,27,28,29,30,2] ?_
 iterate 11 refine qdv ?_
 refine qdl T.out ?_;refine qdp ?_;refine qy J ?_;intro g aS hb hR q;simp only[aG]at q;obtain⟨aH,al,ad,ac⟩:=qye hR 12;clear hR;simp only[fD];simp only[q,ad];clear q ad;replace J:=J.gain hb al ac;clear al ac;clear hb;clear T;go_upto_region 19 with(with_reducible first|refine lld J ?_|(refine zc J ?_;clear J;intro aC J))
 refine zb [87,88,89,90,91,92,93,94,95,96,97,98,99,100,101,102,103,104,105,106,107,108,109] ?_
 iterate 11 refine qdv ?_
 refine yT ao.out ?_
 iterate 8 refine qdv ?_
 refine yT au.out ?_;refine' j2 J ?_ ?_;rotate_left
 ·intro g w hb J _ q;simp only[aG]at q;simp only[fD];simp only[q]
  refine zdL (a:=P) (b:=R) rfl rfl ?_;exact cY
 refine qdk J (fun _ hb J=>Z4 _ _) ?_;refine dnd J ?_;clear J;intro aU J;simp only[zr,sTa,sTb];go_wp2_with (first|fail|(go_at_call 88;refine(j6 w0 bm ⟨aA,a9,some ⟨az,a7,none⟩,an,a8⟩ ins s t (jW (XE P R)) _ (aw.out _ (J.drop (by repeat (first|exact List.Sublist.refl _|apply List.Sublist.cons)) (fun _ h=>h))) ay.out aq.out).mono ?_;rintro e aT ⟨rfl,a1⟩;dsimp only))
 (try simp only[Exit.inBlock,Exit.then]);(first|refine qv rfl rfl ?_|refine qw rfl rfl ?_)
 exact⟨rfl,by rw[<- ar.out,<- av.out];exact a1⟩
theorem zgk (w0:World) (bm:Nat) (p:Pg) (is:Nat->Ins) (ins:Sl) (s:Rs) (k:Nat) (t:Nat) (a:Nat) (a2:Int) (num goto:Int) (w:World) (h:zY w0 bm p ins s w) (hk:s.at'=k) (hkn:k<p.n) (hk6:p.n<=60) (hc:zy w0 p is) (hv:0<s.vars.length) (hi:is k=⟨10,(t:Int),(a:Int),a2,num,goto⟩) (ht:t<s.vars.length) (ha:a<s.vars.length)  :
  Calls prog 47 #[.pointer (some ⟨bm,0,none⟩)] w fun e j=>e=.returned (.tuple #[])∧zY w0 bm p ins (s.set t (jW (!yF (s.val a)))) j:=by
 obtain⟨r,a7,aA,aa,U,T,hR,J⟩:=h;have a1:=hR.vars.flatlen jc (by decide);obtain⟨ad,o,ai,rfl,a0,az⟩:=hR.vars.block (by omega);simp only[aX]at J;obtain⟨P,I⟩:∃ x,x=s.val a:=⟨_,rfl⟩;have an:=za (show zn prog 77 o (a*2) P.v by rw[I];exact zn.agg jk (hR.vars.elem jc dV (k:=a) (by omega)) rfl);have aq:=za I;have ay:a<r.vars.n:=by omega
 have av:=za ht;have a9:=za ha;have ae:0<=s.at'∧s.at'<=1000000:=by omega
 have ao:=za ae;have aj:r.at'=(k:Int):=hR.a.trans hk;have au:=za hR;have ar:=za (fun (j : World) (J:Loc w0 j ((bm,100,q8 p r ins)::(ad,77,o)::(aa++(U++T))) [])=>(⟨r,a7,[(ad,77,o)],aa,U,T,au.out,J⟩:zY w0 bm p ins s j));obtain⟨aw,a3,ag,af⟩:=hc.reads;have ah:=ag (by omega);have C:=af k hkn;rw[hi]at C;have R:=za C;clear hR a1 a0 az af ag C hi hc hk ae ht ha I;obtain⟨a6,a5,aE,al,a4⟩:=p;dsimp only at ah hkn hk6;subst ah;obtain⟨aF,⟨aN,aM,aL⟩,aK,aI,aJ,aH⟩:=r;dsimp only at ai aj ay;subst ai;subst aj;have aD:((k:Int)==(al:Int))=false:=by simp;omega
 go_enter func47,ntmps47;go_upto_region 0 with(fail)
 refine zb [5,6,7,8,9,10,11,12,13,14,15,16] ?_
 iterate 12 refine qdv ?_
 refine dnd J ?_;clear J;intro a8 J;simp only[zr,sTa,sTb];go_upto_region 2 with(fail)
 refine zb [19,20,21,22,23,24,25,26,27,28,29,30,2] ?_
 iterate 11 refine qdv ?_
 refine qdl R.out ?_;refine qdp ?_;refine qy J ?_;intro g aO i hR q;simp only[aG]at q;obtain⟨aB,ak,ac,ab⟩:=qye hR 12;clear hR;simp only[fD];simp only[q,ac];clear q ac;replace J:=J.gain i ak ab;clear ak ab;clear i;clear R;go_upto_region 21 with(with_reducible first|refine lld J ?_|(refine zc J ?_;clear J;intro a8 J))
 refine zb [113,114,115,116,117,118,119,120,121,122,123,124,125,126,127] ?_
 iterate 11 refine qdv ?_
 refine yT an.out ?_;refine qdk J (fun _ i J=>YN P _) ?_;refine qdv ?_;refine qdk J (fun _ i J=>Z4 _ _) ?_;refine dnd J ?_;clear J;intro aQ J;simp only[zr,sTa,sTb];go_wp2_with (first|fail|(go_at_call 88;refine(j6 w0 bm ⟨a6,a5,some ⟨aw,a3,none⟩,al,a4⟩ ins s t (jW (!yF P)) _ (ar.out _ (J.drop (by repeat (first|exact List.Sublist.refl _|apply List.Sublist.cons)) (fun _ h=>h))) av.out ao.out).mono ?_;rintro e aP ⟨rfl,ax⟩;dsimp only))
 (try simp only[Exit.inBlock,Exit.then]);(first|refine qv rfl rfl ?_|refine qw rfl rfl ?_)
 exact⟨rfl,by rw[<- aq.out];exact ax⟩
theorem zgl (w0:World) (bm:Nat) (p:Pg) (is:Nat->Ins) (ins:Sl) (s:Rs) (k:Nat) (t:Nat) (ay:Int) (az:Int) (num goto:Int) (m:Nat) (w:World) (h:zY w0 bm p ins s w) (hk:s.at'=k) (hkn:k<p.n) (hk6:p.n<=60) (hc:zy w0 p is) (hv:0<s.vars.length) (hi:is k=⟨11,(t:Int),ay,az,num,goto⟩) (ht:t<s.vars.length) (hn:(p.fields=m∧m<=3)∧s.things.length<=100):
  Calls prog 47 #[.pointer (some ⟨bm,0,none⟩)] w fun e i=>e=.returned (.tuple #[])∧zY w0 bm p ins (yJ t m s) i:=by
 obtain⟨r,a4,a6,R,P,I,hR,J⟩:=h;have ax:=hR.vars.flatlen jc (by decide);obtain⟨ab,U,ah,rfl,aw,av⟩:=hR.vars.block (by omega);simp only[aX]at J;have aq:=za ht;have ac:0<=s.at'∧s.at'<=1000000:=by omega
 have al:=za ac;have ai:r.at'=(k:Int):=hR.a.trans hk;have ao:=za hR;have an:=za (fun (i : World) (J:Loc w0 i ((bm,100,q8 p r ins)::(ab,77,U)::(R++(P++I))) [])=>(⟨r,a4,[(ab,77,U)],R,P,I,ao.out,J⟩:zY w0 bm p ins s i));obtain⟨ar,a0,af,ae⟩:=hc.reads;have ag:=af (by omega);have j:=ae k hkn;rw[hi]at j;have o:=za j;have C:=za hn;clear hn;clear hR ax aw av ae af j hi hc hk ac ht;obtain⟨a3,a2,aA,ak,a1⟩:=p;dsimp only at ag hkn hk6;subst ag;obtain⟨aB,⟨aJ,aI,aH⟩,aF,aD,aE,aC⟩:=r;dsimp only at ah ai;subst ah;subst ai;have a9:((k:Int)==(ak:Int))=false:=by simp;omega
 go_enter func47,ntmps47;go_upto_region 0 with(fail)
 refine zb [5,6,7,8,9,10,11,12,13,14,15,16] ?_
 iterate 12 refine qdv ?_
 refine dnd J ?_;clear J;intro a5 J;simp only[zr,sTa,sTb];go_upto_region 2 with(fail)
 refine zb [19,20,21,22,23,24,25,26,27,28,29,30,2] ?_
 iterate 11 refine qdv ?_
 refine qdl o.out ?_;refine qdp ?_;refine qy J ?_;intro g aK ad hR q;simp only[aG]at q;obtain⟨a7,aj,aa,T⟩:=qye hR 12;clear hR;simp only[fD];simp only[q,aa];clear q aa;replace J:=J.gain ad aj T;clear aj T;clear ad;clear o;go_wp2_with (first|(with_reducible first|refine lld J ?_|(refine zc J ?_;clear J;intro a5 J))|(go_at_call 92;refine(zbl w0 bm ⟨a3,a2,some ⟨ar,a0,none⟩,ak,a1⟩ ins s ⟨_,_,_,_,_,_⟩ t m _ (an.out _ (J.drop (by repeat (first|exact List.Sublist.refl _|apply List.Sublist.cons)) (fun _ h=>h))) rfl aq.out C.out.1 C.out.2 al.out).mono ?_;rintro e aL ⟨rfl,au⟩;dsimp only))
 (try simp only[Exit.inBlock,Exit.then]);(first|refine qv rfl rfl ?_|refine qw rfl rfl ?_)
 exact⟨rfl,au⟩
theorem zgm (w0:World) (bm:Nat) (p:Pg) (is:Nat->Ins) (ins:Sl) (s:Rs) (k:Nat) (t:Nat) (aj:Int) (ak:Int) (num goto:Int) (xs:Nat->Int) (w:World) (h:zY w0 bm p ins s w) (hk:s.at'=k) (hkn:k<p.n) (hk6:p.n<=60) (hc:zy w0 p is) (hv:0<s.vars.length) (hi:is k=⟨14,(t:Int),aj,ak,num,goto⟩) (ht:t<s.vars.length) (hn:JZ w0 ins xs∧(0<=num∧num<=1000000)∧(0<=s.taken∧s.taken<=9223372036854775807)):
  Calls prog 47 #[.pointer (some ⟨bm,0,none⟩)] w fun e i=>e=.returned (.tuple #[])∧zY w0 bm p ins (Zo ⟨14,t,aj,ak,num,goto⟩ t ins xs s) i:=by
 obtain⟨r,a4,a6,R,P,I,hR,J⟩:=h;have az:=hR.vars.flatlen jc (by decide);obtain⟨ab,U,ah,rfl,ay,ax⟩:=hR.vars.block (by omega);simp only[aX]at J;have au:=za ht;have ac:0<=s.at'∧s.at'<=1000000:=by omega
 have ao:=za ac;have ai:r.at'=(k:Int):=hR.a.trans hk;have ar:=za hR;have aq:=za (fun (i : World) (J:Loc w0 i ((bm,100,q8 p r ins)::(ab,77,U)::(R++(P++I))) [])=>(⟨r,a4,[(ab,77,U)],R,P,I,ar.out,J⟩:zY w0 bm p ins s i));obtain⟨av,a0,af,ae⟩:=hc.reads;have ag:=af (by omega);have o:=ae k hkn;rw[hi]at o;have C:=za o;have j:=za hn;clear hn;clear hR az ay ax ae af o hi hc hk ac ht;obtain⟨a3,a2,aA,an,a1⟩:=p;dsimp only at ag hkn hk6;subst ag;obtain⟨aB,⟨aJ,aI,aH⟩,aF,aD,aE,aC⟩:=r;dsimp only at ah ai;subst ah;subst ai;have a9:((k:Int)==(an:Int))=false:=by simp;omega
 go_enter func47,ntmps47;go_upto_region 0 with(fail)
 refine zb [5,6,7,8,9,10,11,12,13,14,15,16] ?_
 iterate 12 refine qdv ?_
 refine dnd J ?_;clear J;intro a5 J;simp only[zr,sTa,sTb];go_upto_region 2 with(fail)
 refine zb [19,20,21,22,23,24,25,26,27,28,29,30,2] ?_
 iterate 11 refine qdv ?_
 refine qdl C.out ?_;refine qdp ?_;refine qy J ?_;intro g aK ad hR q;simp only[aG]at q;obtain⟨a7,al,aa,T⟩:=qye hR 12;clear hR;simp only[fD];simp only[q,aa];clear q aa;replace J:=J.gain ad al T;clear al T;clear ad;clear C;go_wp2_with (first|(with_reducible first|refine lld J ?_|(refine zc J ?_;clear J;intro a5 J))|(go_at_call 94;refine(zfU w0 bm ⟨a3,a2,some ⟨av,a0,none⟩,an,a1⟩ ins xs s ⟨_,_,_,_,_,_⟩ t _ (aq.out _ (J.drop (by repeat (first|exact List.Sublist.refl _|apply List.Sublist.cons)) (fun _ h=>h))) j.out.1 rfl au.out j.out.2.1 j.out.2.2 ao.out).mono ?_;rintro e aL ⟨rfl,aw⟩;dsimp only))
 (try simp only[Exit.inBlock,Exit.then]);(first|refine qv rfl rfl ?_|refine qw rfl rfl ?_)
 exact⟨rfl,aw⟩
theorem zgn (w0:World) (bm:Nat) (p:Pg) (is:Nat->Ins) (ins:Sl) (s:Rs) (k:Nat) (a:Nat) (to:Int) (ax:Int) (num goto:Int) (w:World) (h:zY w0 bm p ins s w) (hk:s.at'=k) (hkn:k<p.n) (hk6:p.n<=60) (hc:zy w0 p is) (hv:0<s.vars.length) (hi:is k=⟨15,to,(a:Int),ax,num,goto⟩) (ha:a<s.vars.length) (hn:(-9223372036854775808<=(s.val a).n∧(s.val a).n<=9223372036854775807)∧s.lines.length*16+16<=140737488355328∧ZO w0):
  Calls prog 47 #[.pointer (some ⟨bm,0,none⟩)] w fun e i=>e=.returned (.tuple #[])∧zY w0 bm p ins (qA 15 goto a s) i:=by
 obtain⟨r,a2,a4,P,I,C,hR,J⟩:=h;have aw:=hR.vars.flatlen jc (by decide);obtain⟨aa,T,ag,rfl,av,au⟩:=hR.vars.block (by omega);simp only[aX]at J;have ak:=za ha;have ab:0<=s.at'∧s.at'<=1000000:=by omega
 have al:=za ab;have ah:r.at'=(k:Int):=hR.a.trans hk;have ao:=za hR;have an:=za (fun (i : World) (J:Loc w0 i ((bm,100,q8 p r ins)::(aa,77,T)::(P++(I++C))) [])=>(⟨r,a2,[(aa,77,T)],P,I,C,ao.out,J⟩:zY w0 bm p ins s i));obtain⟨aq,ay,ae,ad⟩:=hc.reads;have af:=ae (by omega);have o:=ad k hkn;rw[hi]at o;have t:=za o;have j:=za hn;clear hn;clear hR aw av au ad ae o hi hc hk ab ha;obtain⟨a1,a0,a8,aj,az⟩:=p;dsimp only at af hkn hk6;subst af;obtain⟨a9,⟨aH,aF,aE⟩,aD,aB,aC,aA⟩:=r;dsimp only at ag ah;subst ag;subst ah;have a7:((k:Int)==(aj:Int))=false:=by simp;omega
 go_enter func47,ntmps47;go_upto_region 0 with(fail)
 refine zb [5,6,7,8,9,10,11,12,13,14,15,16] ?_
 iterate 12 refine qdv ?_
 refine dnd J ?_;clear J;intro a3 J;simp only[zr,sTa,sTb];go_upto_region 2 with(fail)
 refine zb [19,20,21,22,23,24,25,26,27,28,29,30,2] ?_
 iterate 11 refine qdv ?_
 refine qdl t.out ?_;refine qdp ?_;refine qy J ?_;intro g aI ac hR q;simp only[aG]at q;obtain⟨a5,ai,U,R⟩:=qye hR 12;clear hR;simp only[fD];simp only[q,U];clear q U;replace J:=J.gain ac ai R;clear ai R;clear ac;clear t;go_wp2_with (first|(with_reducible first|refine lld J ?_|(refine zc J ?_;clear J;intro a3 J))|(go_at_call 95;refine(Y0 w0 bm ⟨a1,a0,some ⟨aq,ay,none⟩,aj,az⟩ ins s ⟨_,_,_,_,_,_⟩ a _ (an.out _ (J.drop (by repeat (first|exact List.Sublist.refl _|apply List.Sublist.cons)) (fun _ h=>h))) (by simp) rfl ak.out al.out j.out.1 j.out.2.1 j.out.2.2).mono ?_;rintro e aJ ⟨rfl,ar⟩;dsimp only))
 (try simp only[Exit.inBlock,Exit.then]);(first|refine qv rfl rfl ?_|refine qw rfl rfl ?_)
 exact⟨rfl,ar⟩
theorem zgo (w0:World) (bm:Nat) (p:Pg) (is:Nat->Ins) (ins:Sl) (s:Rs) (k:Nat) (a:Nat) (to:Int) (ax:Int) (num goto:Int) (w:World) (h:zY w0 bm p ins s w) (hk:s.at'=k) (hkn:k<p.n) (hk6:p.n<=60) (hc:zy w0 p is) (hv:0<s.vars.length) (hi:is k=⟨17,to,(a:Int),ax,num,goto⟩) (ha:a<s.vars.length) (hn:(-9223372036854775808<=(s.val a).n∧(s.val a).n<=9223372036854775807)∧s.lines.length*16+16<=140737488355328∧ZO w0):
  Calls prog 47 #[.pointer (some ⟨bm,0,none⟩)] w fun e i=>e=.returned (.tuple #[])∧zY w0 bm p ins (qA 17 goto a s) i:=by
 obtain⟨r,a2,a4,P,I,C,hR,J⟩:=h;have aw:=hR.vars.flatlen jc (by decide);obtain⟨aa,T,ag,rfl,av,au⟩:=hR.vars.block (by omega);simp only[aX]at J;have ak:=za ha;have ab:0<=s.at'∧s.at'<=1000000:=by omega
 have al:=za ab;have ah:r.at'=(k:Int):=hR.a.trans hk;have ao:=za hR;have an:=za (fun (i : World) (J:Loc w0 i ((bm,100,q8 p r ins)::(aa,77,T)::(P++(I++C))) [])=>(⟨r,a2,[(aa,77,T)],P,I,C,ao.out,J⟩:zY w0 bm p ins s i));obtain⟨aq,ay,ae,ad⟩:=hc.reads;have af:=ae (by omega);have o:=ad k hkn;rw[hi]at o;have t:=za o;have j:=za hn;clear hn;clear hR aw av au ad ae o hi hc hk ab ha;obtain⟨a1,a0,a8,aj,az⟩:=p;dsimp only at af hkn hk6;subst af;obtain⟨a9,⟨aH,aF,aE⟩,aD,aB,aC,aA⟩:=r;dsimp only at ag ah;subst ag;subst ah;have a7:((k:Int)==(aj:Int))=false:=by simp;omega
 go_enter func47,ntmps47;go_upto_region 0 with(fail)
 refine zb [5,6,7,8,9,10,11,12,13,14,15,16] ?_
 iterate 12 refine qdv ?_
 refine dnd J ?_;clear J;intro a3 J;simp only[zr,sTa,sTb];go_upto_region 2 with(fail)
 refine zb [19,20,21,22,23,24,25,26,27,28,29,30,2] ?_
 iterate 11 refine qdv ?_
 refine qdl t.out ?_;refine qdp ?_;refine qy J ?_;intro g aI ac hR q;simp only[aG]at q;obtain⟨a5,ai,U,R⟩:=qye hR 12;clear hR;simp only[fD];simp only[q,U];clear q U;replace J:=J.gain ac ai R;clear ai R;clear ac;clear t;go_wp2_with (first|(with_reducible first|refine lld J ?_|(refine zc J ?_;clear J;intro a3 J))|(go_at_call 95;refine(Y0 w0 bm ⟨a1,a0,some ⟨aq,ay,none⟩,aj,az⟩ ins s ⟨_,_,_,_,_,_⟩ a _ (an.out _ (J.drop (by repeat (first|exact List.Sublist.refl _|apply List.Sublist.cons)) (fun _ h=>h))) (by simp) rfl ak.out al.out j.out.1 j.out.2.1 j.out.2.2).mono ?_;rintro e aJ ⟨rfl,ar⟩;dsimp only))
 (try simp only[Exit.inBlock,Exit.then]);(first|refine qv rfl rfl ?_|refine qw rfl rfl ?_)
 exact⟨rfl,ar⟩
theorem zgp (w0:World) (bm:Nat) (p:Pg) (is:Nat->Ins) (ins:Sl) (s:Rs) (k:Nat) (a:Nat) (to:Int) (ax:Int) (num goto:Int) (w:World) (h:zY w0 bm p ins s w) (hk:s.at'=k) (hkn:k<p.n) (hk6:p.n<=60) (hc:zy w0 p is) (hv:0<s.vars.length) (hi:is k=⟨18,to,(a:Int),ax,num,goto⟩) (ha:a<s.vars.length) (hn:(-9223372036854775808<=(s.val a).n∧(s.val a).n<=9223372036854775807)∧s.lines.length*16+16<=140737488355328∧ZO w0):
  Calls prog 47 #[.pointer (some ⟨bm,0,none⟩)] w fun e i=>e=.returned (.tuple #[])∧zY w0 bm p ins (qA 18 goto a s) i:=by
 obtain⟨r,a2,a4,P,I,C,hR,J⟩:=h;have aw:=hR.vars.flatlen jc (by decide);obtain⟨aa,T,ag,rfl,av,au⟩:=hR.vars.block (by omega);simp only[aX]at J;have ak:=za ha;have ab:0<=s.at'∧s.at'<=1000000:=by omega
 have al:=za ab;have ah:r.at'=(k:Int):=hR.a.trans hk;have ao:=za hR;have an:=za (fun (i : World) (J:Loc w0 i ((bm,100,q8 p r ins)::(aa,77,T)::(P++(I++C))) [])=>(⟨r,a2,[(aa,77,T)],P,I,C,ao.out,J⟩:zY w0 bm p ins s i));obtain⟨aq,ay,ae,ad⟩:=hc.reads;have af:=ae (by omega);have o:=ad k hkn;rw[hi]at o;have t:=za o;have j:=za hn;clear hn;clear hR aw av au ad ae o hi hc hk ab ha;obtain⟨a1,a0,a8,aj,az⟩:=p;dsimp only at af hkn hk6;subst af;obtain⟨a9,⟨aH,aF,aE⟩,aD,aB,aC,aA⟩:=r;dsimp only at ag ah;subst ag;subst ah;have a7:((k:Int)==(aj:Int))=false:=by simp;omega
 go_enter func47,ntmps47;go_upto_region 0 with(fail)
 refine zb [5,6,7,8,9,10,11,12,13,14,15,16] ?_
 iterate 12 refine qdv ?_
 refine dnd J ?_;clear J;intro a3 J;simp only[zr,sTa,sTb];go_upto_region 2 with(fail)
 refine zb [19,20,21,22,23,24,25,26,27,28,29,30,2] ?_
 iterate 11 refine qdv ?_
 refine qdl t.out ?_;refine qdp ?_;refine qy J ?_;intro g aI ac hR q;simp only[aG]at q;obtain⟨a5,ai,U,R⟩:=qye hR 12;clear hR;simp only[fD];simp only[q,U];clear q U;replace J:=J.gain ac ai R;clear ai R;clear ac;clear t;go_wp2_with (first|(with_reducible first|refine lld J ?_|(refine zc J ?_;clear J;intro a3 J))|(go_at_call 95;refine(Y0 w0 bm ⟨a1,a0,some ⟨aq,ay,none⟩,aj,az⟩ ins s ⟨_,_,_,_,_,_⟩ a _ (an.out _ (J.drop (by repeat (first|exact List.Sublist.refl _|apply List.Sublist.cons)) (fun _ h=>h))) (by simp) rfl ak.out al.out j.out.1 j.out.2.1 j.out.2.2).mono ?_;rintro e aJ ⟨rfl,ar⟩;dsimp only))
 (try simp only[Exit.inBlock,Exit.then]);(first|refine qv rfl rfl ?_|refine qw rfl rfl ?_)
 exact⟨rfl,ar⟩
theorem zgq (w0:World) (bm:Nat) (p:Pg) (is:Nat->Ins) (ins:Sl) (s:Rs) (k:Nat) (to:Int) (ah:Int) (av:Int) (num goto:Int) (w:World) (h:zY w0 bm p ins s w) (hk:s.at'=k) (hkn:k<p.n) (hk6:p.n<=60) (hc:zy w0 p is) (hv:0<s.vars.length) (hi:is k=⟨16,to,ah,av,num,goto⟩)   :
  Calls prog 47 #[.pointer (some ⟨bm,0,none⟩)] w fun e i=>e=.returned (.tuple #[])∧zY w0 bm p ins (qA 16 goto ah.toNat s) i:=by
 obtain⟨r,a0,a3,I,C,t,hR,J⟩:=h;have au:=hR.vars.flatlen jc (by decide);obtain⟨U,R,af,rfl,ar,aq⟩:=hR.vars.block (by omega);simp only[aX]at J;have aa:0<=s.at'∧s.at'<=1000000:=by omega
 have a2:=za aa;have ag:r.at'=(k:Int):=hR.a.trans hk;have al:=za hR;have ak:=za (fun (i : World) (J:Loc w0 i ((bm,100,q8 p r ins)::(U,77,R)::(I++(C++t))) [])=>(⟨r,a0,[(U,77,R)],I,C,t,al.out,J⟩:zY w0 bm p ins s i));obtain⟨an,aw,ad,ac⟩:=hc.reads;have ae:=ad (by omega);have j:=ac k hkn;rw[hi]at j;have o:=za j;clear hR au ar aq ac ad j hi hc hk aa;obtain⟨az,ay,a7,aj,ax⟩:=p;dsimp only at ae hkn hk6;subst ae;obtain⟨a8,⟨aF,aE,aD⟩,aC,aA,aB,a9⟩:=r;dsimp only at af ag;subst af;subst ag;have a6:((k:Int)==(aj:Int))=false:=by simp;omega
 go_enter func47,ntmps47;go_upto_region 0 with(fail)
 refine zb [5,6,7,8,9,10,11,12,13,14,15,16] ?_
 iterate 12 refine qdv ?_
 refine dnd J ?_;clear J;intro a1 J;simp only[zr,sTa,sTb];go_upto_region 2 with(fail)
 refine zb [19,20,21,22,23,24,25,26,27,28,29,30,2] ?_
 iterate 11 refine qdv ?_
 refine qdl o.out ?_;refine qdp ?_;refine qy J ?_;intro g aH ab hR q;simp only[aG]at q;obtain⟨a4,ai,T,P⟩:=qye hR 12;clear hR;simp only[fD];simp only[q,T];clear q T;replace J:=J.gain ab ai P;clear ai P;clear ab;clear o;go_wp2_with (first|(with_reducible first|refine lld J ?_|(refine zc J ?_;clear J;intro a1 J))|(go_at_call 95;refine(KK w0 bm ⟨az,ay,some ⟨an,aw,none⟩,aj,ax⟩ ins s ⟨_,_,_,_,_,_⟩ _ (ak.out _ (J.drop (by repeat (first|exact List.Sublist.refl _|apply List.Sublist.cons)) (fun _ h=>h))) (by simp)).mono ?_;rintro e aI ⟨rfl,ao⟩;dsimp only))
 (try simp only[Exit.inBlock,Exit.then]);(first|refine qv rfl rfl ?_|refine qw rfl rfl ?_)
 exact⟨rfl,ao⟩
theorem zgr (w0:World) (bm:Nat) (p:Pg) (is:Nat->Ins) (ins:Sl) (s:Rs) (k:Nat) (to:Int) (ah:Int) (av:Int) (num goto:Int) (w:World) (h:zY w0 bm p ins s w) (hk:s.at'=k) (hkn:k<p.n) (hk6:p.n<=60) (hc:zy w0 p is) (hv:0<s.vars.length) (hi:is k=⟨19,to,ah,av,num,goto⟩)   :
  Calls prog 47 #[.pointer (some ⟨bm,0,none⟩)] w fun e i=>e=.returned (.tuple #[])∧zY w0 bm p ins (qA 19 goto ah.toNat s) i:=by
 obtain⟨r,a0,a3,I,C,t,hR,J⟩:=h;have au:=hR.vars.flatlen jc (by decide);obtain⟨U,R,af,rfl,ar,aq⟩:=hR.vars.block (by omega);simp only[aX]at J;have aa:0<=s.at'∧s.at'<=1000000:=by omega
 have a2:=za aa;have ag:r.at'=(k:Int):=hR.a.trans hk;have al:=za hR;have ak:=za (fun (i : World) (J:Loc w0 i ((bm,100,q8 p r ins)::(U,77,R)::(I++(C++t))) [])=>(⟨r,a0,[(U,77,R)],I,C,t,al.out,J⟩:zY w0 bm p ins s i));obtain⟨an,aw,ad,ac⟩:=hc.reads;have ae:=ad (by omega);have j:=ac k hkn;rw[hi]at j;have o:=za j;clear hR au ar aq ac ad j hi hc hk aa;obtain⟨az,ay,a7,aj,ax⟩:=p;dsimp only at ae hkn hk6;subst ae;obtain⟨a8,⟨aF,aE,aD⟩,aC,aA,aB,a9⟩:=r;dsimp only at af ag;subst af;subst ag;have a6:((k:Int)==(aj:Int))=false:=by simp;omega
 go_enter func47,ntmps47;go_upto_region 0 with(fail)
 refine zb [5,6,7,8,9,10,11,12,13,14,15,16] ?_
 iterate 12 refine qdv ?_
 refine dnd J ?_;clear J;intro a1 J;simp only[zr,sTa,sTb];go_upto_region 2 with(fail)
 refine zb [19,20,21,22,23,24,25,26,27,28,29,30,2] ?_
 iterate 11 refine qdv ?_
 refine qdl o.out ?_;refine qdp ?_;refine qy J ?_;intro g aH ab hR q;simp only[aG]at q;obtain⟨a4,ai,T,P⟩:=qye hR 12;clear hR;simp only[fD];simp only[q,T];clear q T;replace J:=J.gain ab ai P;clear ai P;clear ab;clear o;go_wp2_with (first|(with_reducible first|refine lld J ?_|(refine zc J ?_;clear J;intro a1 J))|(go_at_call 95;refine(KK w0 bm ⟨az,ay,some ⟨an,aw,none⟩,aj,ax⟩ ins s ⟨_,_,_,_,_,_⟩ _ (ak.out _ (J.drop (by repeat (first|exact List.Sublist.refl _|apply List.Sublist.cons)) (fun _ h=>h))) (by simp)).mono ?_;rintro e aI ⟨rfl,ao⟩;dsimp only))
 (try simp only[Exit.inBlock,Exit.then]);(first|refine qv rfl rfl ?_|refine qw rfl rfl ?_)
 exact⟨rfl,ao⟩
end Go.Proofs.YtplcndmdkabmeaaGreatDoor
