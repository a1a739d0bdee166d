/- The small program of the laws. Conditions: none. | The walk over the stepper's step at an if and an expect. Conditions: the picture is right and of runs; the instruction is right. | The walk over the stepper's step at an instruction that makes something of two. Conditions: the picture is right and of runs; the instruction is right. | The walks over the stepper's step, whole, over step.Raw and step.Step. Conditions: what they read lies in memory that was there. | The walk over step.Step. Conditions: what it reads lies in memory that was there. | The walk over the law's stepBegun. Conditions: none. -/
import Derived.Test.YtplcndmdkabmeaaGreatDoorPrg
import Derived.Test.YtplcndmdkabmeaaGreatDoorStpb
import Derived.Test.YtplcndmdkabmeaaGreatDoorPica
import Derived.Test.YtplcndmdkabmeaaGreatDoorPicc
import Derived.Test.YtplcndmdkabmeaaGreatDoorPicd
set_option linter.unusedSimpArgs false
set_option linter.unusedVariables false
set_option maxRecDepth 100000
set_option maxHeartbeats 400000
namespace Go.Proofs.YtplcndmdkabmeaaGreatDoor
open Go.RowKit
def yB (k:Nat):Ins:=if k=0 then ⟨1,0,0,0,5,0⟩ else ⟨18,0,0,0,0,0⟩
abbrev UT:List Value:=[.int .i64 1,.int .i64 0,.int .i64 0,.int .i64 0,.int .i64 5,.int .i64 0,.int .i64 18,.int .i64 0,.int .i64 0,.int .i64 0,.int .i64 0,.int .i64 0]
abbrev Zm (b:Nat):Pg:=⟨1,0,some ⟨b,0,none⟩,2,2⟩
theorem zaT {w:World}{b:Nat}(h:w.heap[b]? = some (.cells UT.toArray 86 (0,0))):qc w (Zm b) yB:=by
 refine⟨b,0,fun _=>rfl,fun k hk=>⟨zL h,fun j v hj=>?_⟩⟩
 have hk2:k<2:=hk
 have hj6:j<6:=(List.getElem?_eq_some_iff.1 hj).1
 have e:w.cell? ⟨b,0+k*6+j,none⟩=UT[k*6+j]? :=by simp[World.cell?,h]
 rw[e,← hj]
 obtain rfl|rfl:k=0∨k=1:=by omega
 all_goals
  obtain rfl|rfl|rfl|rfl|rfl|rfl:j=0∨j=1∨j=2∨j=3∨j=4∨j=5:=by omega
  all_goals rfl
theorem GB (b:Nat):zl (Zm b) yB=0:=rfl
theorem zcB (w:World):
  Calls Tryz.prog 39 #[] w fun e w'=>∃ b,e=.returned (Zm b).v∧w.heap.size≤b∧w'.heap[b]? = some (.cells UT.toArray 86 (0,0))∧Below w.heap.size w w':=by
 have hL:=Loc.start w
 go_enter Tryz.func39,Tryz.ntmps39
 go_wp2_with (first|(with_reducible first|((first|refine lal hL ?_|refine lbs hL ?_);clear hL;intro bl w1 hL)|(refine zd hL ?_;clear hL;intro w1 hL)))
 refine rt1 ?_
 exact⟨_,rfl,hL.ids _ List.mem_cons_self,hL.cells _ List.mem_cons_self,hL.below⟩
def SmR (B:Nat):Value→World→Prop:=fun v w=>∃ b,B≤b∧v=(Zm b).v∧w.heap[b]? = some (.cells UT.toArray 86 (0,0))
theorem SmR.stable {B:Nat}:jC (SmR B):=by
 rintro v w w' hb ⟨b,h1,h2,h3⟩;exact⟨b,h1,h2,by rw[hb.block _ (zL h3)];exact h3⟩
set_option maxHeartbeats 2000000
theorem XR {w0:World}{x:Pv}{d:Pd}(hx:zN w0 x d) {a:Nat}(ha:a<d.vars.length):∃ (bo oo:Nat) (s:Sl),x.vars.p=some ⟨bo,oo,none⟩∧a<x.vars.n∧x.vars.n≤9223372036854775807∧zg Tryz.prog 108 w0 bo (oo+a*7) ((d.var a).gu s).v∧zp w0 s (d.var a).l:=by
 obtain⟨sv,hlv,hiv⟩:=hx.vars.ex
 have hvn:=hx.vars.n
 obtain⟨bo,oo,hpo,hco⟩:=hlv.ex
 exact⟨bo,oo,sv a,hpo (by omega),by omega,hx.vars.m,zg.agg (P:=Tryz.prog) zZ (hco a (by omega)).1 (hco a (by omega)).2 rfl,hiv a (by omega)⟩
theorem zdG (w0:World) (bs:Nat) (i:Ins) (at' : Nat) (x:Pv) (d:Pd) (A:List zj) (D:List zw) (w:World) (p:Pg) (h:Stp w0 bs i at' x [] false false A D w) (ok:qS w0 x d) (hr:Qe p i) (hf:j5 i=false) (hd:qw p d) (ha:at' < d.fields.length) (hat:at'≤1000000) (hk:i.kind=15):qo w0 bs i at' x d A D w:=by
 unfold qo
 rw[show zU i at' d=⟨([]++if JF ((d.var i.a.toNat).gu ⟨none,(d.var i.a.toNat).l.length,0⟩)=true then [(i.goto,d.setVar i.a.toNat (ya (d.var i.a.toNat)))] else [])++(if noG ((d.var i.a.toNat).gu zn)=true then [((at' : Int)+1,d.setVar i.a.toNat (yu (d.var i.a.toNat)))] else []),false,false⟩ by unfold zU;rw[if_neg (by omega),if_neg (by omega),if_neg (by omega),if_neg (by omega),if_pos hk];rfl]
 obtain⟨hia,hal⟩:=idx (hr.a (by rw[hk];decide)) hd.r.vars
 obtain⟨bo,oo,sv,hpo,hav,hvm,hrd,hil⟩:=XR ok.x hal
 have hC:=fun w'=>Z6 ((d.var i.a.toNat).gu sv) w'
 have hn0:noG ((d.var i.a.toNat).gu sv)=noG ((d.var i.a.toNat).gu zn):=rfl
 simp only[zb9 hil.n,hn0]at hC
 generalize JF ((d.var i.a.toNat).gu ⟨none,(d.var i.a.toNat).l.length,0⟩)=y at *
 generalize noG ((d.var i.a.toNat).gu zn)=n at *
 have HW1:=Lib.hid (fun w1 h1=>Va w0 bs i at' x d [] false false A D w1 i.a.toNat y i.goto 160 Zs ya zb8 Xr GS h1 ok hia hal (by simp))
 have HW2:=Lib.hid (fun w1 h1=>Va w0 bs i at' x d ([]++if y=true then [(i.goto,d.setVar i.a.toNat (ya (d.var i.a.toNat)))] else []) false false A D w1 i.a.toNat n ((at' : Int)+1) 161 Kn yu zfa GT za8 h1 ok hia hal (by cases y<;>simp))
 have HC:=Lib.hid hC
 have HG:=Lib.hid hrd
 obtain⟨⟨sp,sn,sc⟩,evs,Re,hR,hL⟩:=h
 have HR:=Lib.hid hR
 clear hR ok hr hf hd ha hC hrd hil hal hn0
 generalize d.setVar i.a.toNat (ya (d.var i.a.toNat))=dt at *
 generalize d.setVar i.a.toNat (yu (d.var i.a.toNat))=df at *
 generalize ([]++if y=true then [(i.goto,dt)] else [])=e1 at *
 generalize (e1++if n=true then [((at' : Int)+1,df)] else [])=e2 at *
 generalize i.a.toNat=a at *
 generalize d.var a=g at *
 obtain⟨ik,ito,ia,ib,inn,ig⟩:=i
 obtain⟨xn,⟨xp,xvn,xc⟩,⟨xfp,xfn,xfc⟩⟩:=x
 dsimp only at hk hia hpo hav hvm
 subst hk hia hpo
 obtain⟨gn,⟨gsn,glo,ghi⟩,gt,gff,gl⟩:=g
 obtain⟨s1,s2,s3⟩:=sv
 dsimp only[Res.gu]at HG HC
 go_enter Tryz.func107,Tryz.ntmps107
 go_upto_region 16 with(first|(with_reducible refine lld hL ?_))
 obtain⟨wq,hwq⟩:∃ x,x=w:=⟨_,rfl⟩
 subst hwq
 refine zf [77,78,79,80,81,82,83,84,85,86,87,88,89,76,90,91,2,3] ?_
 refine dv0 ?_
 refine dv1 0 ?_
 refine dv1 1 ?_
 refine dv1 2 ?_
 refine dv1 3 ?_
 refine dv0 ?_
 refine dv1 5 ?_
 refine dv1 6 ?_
 refine dv1 7 ?_
 refine dv1 8 ?_
 refine dv2 4 9 ?_
 apply zb
 ·intro g w hb u;replace hL:=hL.grow hb;have d10:=yv u 10;clear u;simp only[za,fLa,fLb,sTa,sTb];simp only[d10]
  refine zo HG.out hL rfl rfl ?_
  exact cY
 simp only[apN,apC]
 apply zb
 ·intro g w hb u;replace hL:=hL.grow hb;have d11:=yv u 11;clear u;simp only[za,fLa,fLb,sTa,sTb];simp only[d11]
  go_wp2_with (go_at_call 158;refine(HC.out _).mono ?_;rintro e w3 ⟨rfl,hb3⟩;dsimp only)
  exact⟨rfl,_,rfl,(by assumption),rfl⟩
 simp only[apN,apC]
 refine dv1 12 ?_
 refine dv1 13 ?_
 refine dv1 13 ?_
 refine dv1 14 ?_
 refine dv1 15 ?_
 refine dnd hL ?_
 clear hL;intro w2 hL;simp only[zV,sTa,sTb]
 go_upto_region 18 with(first|(with_reducible refine lld hL ?_)|(go_at_call 159;refine(HW1.out _ ⟨⟨sp,sn,sc⟩,evs,Re,HR.out,hL⟩).mono ?_;clear hL;rintro e w3 ⟨rfl,⟨⟨sp',sn',sc'⟩,evs',Re',hR',hL⟩⟩;dsimp only))
 go_wp2_with (first|(with_reducible refine lld hL ?_)|(go_at_call 159;refine(HW2.out _ ⟨⟨sp',sn',sc'⟩,evs',Re',hR',hL⟩).mono ?_;rintro e w3 ⟨rfl,hM⟩;dsimp only))
 (try simp only[Exit.inBlock,Exit.then]);(first|refine yP rfl rfl ?_|refine yQ rfl rfl ?_)
 exact⟨rfl,hM⟩
theorem zdH (w0:World) (bs:Nat) (i:Ins) (at' : Nat) (x:Pv) (d:Pd) (A:List zj) (D:List zw) (w:World) (p:Pg) (h:Stp w0 bs i at' x [] false false A D w) (ok:qS w0 x d) (hr:Qe p i) (hf:j5 i=false) (hd:qw p d) (ha:at' < d.fields.length) (hat:at'≤1000000) (hk:i.kind=17):qo w0 bs i at' x d A D w:=by
 unfold qo
 rw[show zU i at' d=⟨([]++if JF ((d.var i.a.toNat).gu ⟨none,(d.var i.a.toNat).l.length,0⟩)=true then [((at' : Int)+1,d.setVar i.a.toNat (ya (d.var i.a.toNat)))] else []),false,noG ((d.var i.a.toNat).gu zn)⟩ by unfold zU;rw[if_neg (by omega),if_neg (by omega),if_neg (by omega),if_neg (by omega),if_neg (by omega),if_pos hk];rfl]
 obtain⟨hia,hal⟩:=idx (hr.a (by rw[hk];decide)) hd.r.vars
 obtain⟨bo,oo,sv,hpo,hav,hvm,hrd,hil⟩:=XR ok.x hal
 have hC:=fun w'=>Z6 ((d.var i.a.toNat).gu sv) w'
 have hn0:noG ((d.var i.a.toNat).gu sv)=noG ((d.var i.a.toNat).gu zn):=rfl
 simp only[zb9 hil.n,hn0]at hC
 generalize JF ((d.var i.a.toNat).gu ⟨none,(d.var i.a.toNat).l.length,0⟩)=y at *
 generalize noG ((d.var i.a.toNat).gu zn)=n at *
 have HW1:=Lib.hid (fun w1 h1=>Va w0 bs i at' x d [] false false A D w1 i.a.toNat y ((at' : Int)+1) 160 Zs ya zb8 Xr GS h1 ok hia hal (by simp))
 have HC:=Lib.hid hC
 have HG:=Lib.hid hrd
 obtain⟨⟨sp,sn,sc⟩,evs,Re,hR,hL⟩:=h
 have HR:=Lib.hid hR
 clear hR ok hr hf hd ha hC hrd hil hal hn0
 generalize d.setVar i.a.toNat (ya (d.var i.a.toNat))=dt at *
 generalize ([]++if y=true then [((at' : Int)+1,dt)] else [])=e1 at *
 generalize i.a.toNat=a at *
 generalize d.var a=g at *
 obtain⟨ik,ito,ia,ib,inn,ig⟩:=i
 obtain⟨xn,⟨xp,xvn,xc⟩,⟨xfp,xfn,xfc⟩⟩:=x
 dsimp only at hk hia hpo hav hvm
 subst hk hia hpo
 obtain⟨gn,⟨gsn,glo,ghi⟩,gt,gff,gl⟩:=g
 obtain⟨s1,s2,s3⟩:=sv
 dsimp only[Res.gu]at HG HC
 go_enter Tryz.func107,Tryz.ntmps107
 go_upto_region 20 with(first|(with_reducible refine lld hL ?_))
 obtain⟨wq,hwq⟩:∃ x,x=w:=⟨_,rfl⟩
 subst hwq
 refine zf [111,112,113,114,115,116,117,118,119,120,121,122,123,110,124,125,4,5] ?_
 refine dv0 ?_
 refine dv1 0 ?_
 refine dv1 1 ?_
 refine dv1 2 ?_
 refine dv1 3 ?_
 refine dv0 ?_
 refine dv1 5 ?_
 refine dv1 6 ?_
 refine dv1 7 ?_
 refine dv1 8 ?_
 refine dv2 4 9 ?_
 apply zb
 ·intro g w hb u;replace hL:=hL.grow hb;have d10:=yv u 10;clear u;simp only[za,fLa,fLb,sTa,sTb];simp only[d10]
  refine zo HG.out hL rfl rfl ?_
  exact cY
 simp only[apN,apC]
 apply zb
 ·intro g w hb u;replace hL:=hL.grow hb;have d11:=yv u 11;clear u;simp only[za,fLa,fLb,sTa,sTb];simp only[d11]
  go_wp2_with (go_at_call 158;refine(HC.out _).mono ?_;rintro e w3 ⟨rfl,hb3⟩;dsimp only)
  exact⟨rfl,_,rfl,(by assumption),rfl⟩
 simp only[apN,apC]
 refine dv1 12 ?_
 refine dv1 13 ?_
 refine dv1 13 ?_
 refine dv1 14 ?_
 refine dv1 15 ?_
 refine dnd hL ?_
 clear hL;intro w2 hL;simp only[zV,sTa,sTb]
 go_upto_region 22 with(first|(with_reducible refine lld hL ?_)|(go_at_call 159;refine(HW1.out _ ⟨⟨sp,sn,sc⟩,evs,Re,HR.out,hL⟩).mono ?_;clear hL;rintro e w3 ⟨rfl,⟨⟨sp',sn',sc'⟩,evs',Re',hR',hL⟩⟩;dsimp only))
 go_wp2_with (first|(with_reducible refine zd hL ?_;clear hL;intro w1 hL))
 (try simp only[Exit.inBlock,Exit.then]);(first|refine yP rfl rfl ?_|refine yQ rfl rfl ?_)
 exact⟨rfl,⟨sp',sn',sc'⟩,evs',Re',hR',hL⟩
def J3 (B:Nat) (a:Bool) (s:zq) (b c:Bool) (l:List Int) (wr:Bool):Value→World→Prop:=fun v w=>∃ (r:Sl) (R:List zj),v=.tuple #[Gu.v ⟨a,s,b,c,r⟩,.bool wr]∧zM 3 1 r.p r.n r.cap (l.map (Value.int .i64)) R∧Own B w R
theorem J3.stable {B:Nat}{a:Bool}{s:zq}{b c:Bool}{l:List Int}{wr:Bool}:∀ v w w',Below w.heap.size w w'→J3 B a s b c l wr v w→J3 B a s b c l wr v w':=fun _ _ _ hb ⟨r,R,h1,h2,h3⟩=>⟨r,R,h1,h2,h3.grow hb⟩
theorem UB (k:Int) (d e:Res) {s t:Sl}(l m:List Int) (hs:s.n=d.l.length) (ht:t.n=e.l.length):qK k (d.gu s) (e.gu t) l m=qK k (d.gu ⟨none,d.l.length,0⟩) (e.gu ⟨none,e.l.length,0⟩) l m:=by
 obtain⟨s1,s2,s3⟩:=s
 obtain⟨t1,t2,t3⟩:=t
 dsimp only at hs ht
 subst hs ht
 rfl
theorem jY.gu {d:Res}(h:jY d) {s:Sl}(hs:s.n=d.l.length):yV (d.gu s) d.l:=⟨h.span,hs,h.ins,h.asc,h.le⟩
theorem zaU (w0:World) (bs:Nat) (i:Ins) (at' : Nat) (x:Pv) (d:Pd) (A:List zj) (D:List zw) (w:World) (p:Pg) (h:Stp w0 bs i at' x [] false false A D w) (ok:qS w0 x d) (hr:Qe p i) (hf:j5 i=false) (hd:qw p d) (ha:at' < d.fields.length) (hat:at'≤1000000) (hk:z6 i.kind 4 10=true):qo w0 bs i at' x d A D w:=by
 have hk2:4≤i.kind∧i.kind≤10:=by simp only[z6,Bool.and_eq_true,decide_eq_true_eq]at hk;exact hk
 unfold qo
 rw[show zU i at' d=⟨[]++jV d at' i.to.toNat (qK i.kind ((d.var i.a.toNat).gu ⟨none,(d.var i.a.toNat).l.length,0⟩) ((d.var i.b.toNat).gu ⟨none,(d.var i.b.toNat).l.length,0⟩) (d.var i.a.toNat).l (d.var i.b.toNat).l).1,
  (qK i.kind ((d.var i.a.toNat).gu ⟨none,(d.var i.a.toNat).l.length,0⟩) ((d.var i.b.toNat).gu ⟨none,(d.var i.b.toNat).l.length,0⟩) (d.var i.a.toNat).l (d.var i.b.toNat).l).2,false⟩ by
  unfold zU;rw[if_neg (by omega),if_neg (by omega),if_neg (by omega),if_neg (by omega),if_neg (by omega),if_neg (by omega),if_neg (by omega),if_neg (by omega),if_neg (by omega)];rfl]
 have hto:nTo i.kind=true:=by simp[nTo,z6];omega
 obtain⟨hit,hkl⟩:=idx (hr.to hto) hd.r.vars
 obtain⟨hia,hal⟩:=idx (hr.a (by simp[nA,z6];omega)) hd.r.vars
 have hb2:i.b=(i.b.toNat:Int)∧i.b.toNat<d.vars.length:=by
  cases hnb:nB i.kind with
  | true=>exact idx (hr.b hnb) hd.r.vars
  | false=>have:=zf7 hf hnb;omega
 obtain⟨hib,hbl⟩:=hb2
 obtain⟨bo,oo,sa,hpo,hav,hvm,hra,hila⟩:=XR ok.x hal
 obtain⟨bo2,oo2,sb,hpo2,hbv,-,hrb,hilb⟩:=XR ok.x hbl
 rw[hpo]at hpo2
 obtain⟨rfl,rfl⟩:bo=bo2∧oo=oo2:=by simpa using hpo2
 have hm:=fun w' (hb:Below w0.heap.size w0 w')=>zea i.kind ((d.var i.a.toNat).gu sa) ((d.var i.b.toNat).gu sb) (d.var i.a.toNat).l (d.var i.b.toNat).l w' hk ((hd.r.vg _ hal).gu hila.n) ((hd.r.vg _ hbl).gu hilb.n) (hila.grow hb) (hilb.grow hb)
 simp only[UB i.kind (d.var i.a.toNat) (d.var i.b.toNat) (d.var i.a.toNat).l (d.var i.b.toNat).l hila.n hilb.n]at hm
 generalize qK i.kind ((d.var i.a.toNat).gu ⟨none,(d.var i.a.toNat).l.length,0⟩) ((d.var i.b.toNat).gu ⟨none,(d.var i.b.toNat).l.length,0⟩) (d.var i.a.toNat).l (d.var i.b.toNat).l=mg at *
 obtain⟨⟨en,⟨esn,elo,ehi⟩,et,ef,el⟩,wr⟩:=mg
 dsimp only[Res.gu]at hm hra hrb ⊢
 have HS:=Lib.hid (fun w1 b6 g h1=>J9 w0 bs i at' x d [] wr false ((b6,108,Gu.cells g)::A) ((fun w=>qq w g ⟨en,⟨esn,elo,ehi⟩,et,ef,el⟩)::D) w1 i.to.toNat g ⟨en,⟨esn,elo,ehi⟩,et,ef,el⟩ h1 ok hit hkl List.mem_cons_self (by simp) hat)
 have HM:=Lib.hid hm
 have HA:=Lib.hid hra
 have HB:=Lib.hid hrb
 obtain⟨⟨sp,sn,sc⟩,evs,Re,hR,hL⟩:=h
 have HR:=Lib.hid hR
 clear hR ok hr hf hd ha hm hra hrb hila hilb hal hbl hto hk hit hkl hpo2
 generalize ([]++jV d at' i.to.toNat ⟨en,⟨esn,elo,ehi⟩,et,ef,el⟩)=e1 at *
 generalize i.a.toNat=a at *
 generalize i.b.toNat=b at *
 generalize d.var a=g at *
 generalize d.var b=g2 at *
 obtain⟨ik,ito,ia,ib,inn,ig⟩:=i
 obtain⟨xn,⟨xp,xvn,xc⟩,⟨xfp,xfn,xfc⟩⟩:=x
 dsimp only at hk2 hia hib hpo hav hvm hbv
 subst hia hib hpo
 obtain⟨k1,k2⟩:=hk2
 have q1:(ik==1)=false:=by simp;omega
 have q2:(ik==14)=false:=by simp;omega
 have q3:(ik==2)=false:=by simp;omega
 have q4:(ik==3)=false:=by simp;omega
 have q5:(ik==11)=false:=by simp;omega
 have q6:(ik==12)=false:=by simp;omega
 have q7:(ik==13)=false:=by simp;omega
 have q8:(ik==15)=false:=by simp;omega
 have q9:(ik==17)=false:=by simp;omega
 have q10:(ik==16)=false:=by simp;omega
 have q11:(ik==18)=false:=by simp;omega
 have q12:(ik==19)=false:=by simp;omega
 obtain⟨gn,⟨gsn,glo,ghi⟩,gt,gff,gl⟩:=g
 obtain⟨gn2,⟨gsn2,glo2,ghi2⟩,gt2,gff2,gl2⟩:=g2
 obtain⟨s1,s2,s3⟩:=sa
 obtain⟨t1,t2,t3⟩:=sb
 dsimp only at HM HA HB
 go_enter Tryz.func107,Tryz.ntmps107
 go_upto_region 1 with(first|(with_reducible refine lld hL ?_))
 clear q1 q2 q3 q4 q5 q6 q7 q8 q9 q10 q11 q12 k1 k2
 obtain⟨wq,hwq⟩:∃ x,x=w:=⟨_,rfl⟩
 subst hwq
 refine zf [14,15,16,17,18,19,20,21,22,23,24,25,26,27,28,29,30,31,32,33,34,35,36,37,38,39,40,41,42,43,13,44,45,6] ?_
 refine dv0 ?_
 refine dv1 0 ?_
 refine dv1 1 ?_
 refine dv1 2 ?_
 refine dv1 3 ?_
 refine dv0 ?_
 refine dv1 5 ?_
 refine dv1 6 ?_
 refine dv1 7 ?_
 refine dv1 8 ?_
 refine dv0 ?_
 refine dv1 10 ?_
 refine dv1 11 ?_
 refine dv1 12 ?_
 refine dv1 13 ?_
 refine dv2 9 14 ?_
 apply zb
 ·intro g w hb u;replace hL:=hL.grow hb;have d15:=yv u 15;clear u;simp only[za,fLa,fLb,sTa,sTb];simp only[d15]
  refine zo HA.out hL rfl rfl ?_
  exact cY
 simp only[apN,apC]
 refine dv0 ?_
 refine dv1 17 ?_
 refine dv1 18 ?_
 refine dv1 19 ?_
 refine dv1 20 ?_
 refine dv0 ?_
 refine dv1 22 ?_
 refine dv1 23 ?_
 refine dv1 24 ?_
 refine dv1 25 ?_
 refine dv2 21 26 ?_
 apply zb
 ·intro g w hb u;replace hL:=hL.grow hb;have d27:=yv u 27;clear u;simp only[za,fLa,fLb,sTa,sTb];simp only[d27]
  refine zo HB.out hL rfl rfl ?_
  exact cY
 simp only[apN,apC]
 refine zh (J3 wq.heap.size en ⟨esn,elo,ehi⟩ et ef el wr) J3.stable ?_ ?_
 ·intro g w hb u;replace hL:=hL.grow hb;have d4:=yv u 4;have d16:=yv u 16;have d28:=yv u 28;clear u;simp only[za,fLa,fLb,sTa,sTb];simp only[d4,d16,d28]
  go_wp2_with (go_at_call 165;refine(HM.out _ hL.below).mono ?_;rintro e w3 ⟨r,rfl,⟨R,hr,ho⟩,hb3⟩;dsimp only)
  exact⟨rfl,_,rfl,hb3,r,R,rfl,hr,ho.mono hb.size⟩
 simp only[apN,apC]
 refine zh (J3 wq.heap.size en ⟨esn,elo,ehi⟩ et ef el wr) J3.stable ?_ ?_
 ·intro g w hb u;replace hL:=hL.grow hb;have d29:(J3 wq.heap.size en ⟨esn,elo,ehi⟩ et ef el wr) (g 43) w:=yr u 29;obtain⟨q29,Q29,d29,hq29,hO29⟩:=d29;clear u;simp only[za,fLa,fLb,sTa,sTb];simp only[d29]
  go_wp2_with (fail)
  exact⟨rfl,_,rfl,Below.refl _ _,q29,Q29,rfl,hq29,hO29⟩
 simp only[apN,apC]
 refine zh (GuR wq.heap.size en ⟨esn,elo,ehi⟩ et ef el) GuR.stable ?_ ?_
 ·intro g w hb u;replace hL:=hL.grow hb;have d30:(J3 wq.heap.size en ⟨esn,elo,ehi⟩ et ef el wr) (g 13) w:=yr u 30;obtain⟨q30,Q30,d30,hq30,hO30⟩:=d30;clear u;simp only[za,fLa,fLb,sTa,sTb];simp only[d30]
  go_wp2_with (fail)
  exact⟨rfl,_,rfl,Below.refl _ _,q30,Q30,rfl,hq30,hO30⟩
 simp only[apN,apC]
 apply zb
 ·intro g w hb u;replace hL:=hL.grow hb;have d30:(J3 wq.heap.size en ⟨esn,elo,ehi⟩ et ef el wr) (g 13) w:=yr u 30;obtain⟨q30,Q30,d30,hq30,hO30⟩:=d30;clear u;simp only[za,fLa,fLb,sTa,sTb];simp only[d30]
  go_wp2
  exact cY
 simp only[apN,apC]
 apply Qi
 ·intro g w hb u;replace hL:=hL.grow hb;clear u;simp only[za,fLa,fLb,sTa,sTb]
  go_wp2
  exact⟨rfl,_,rfl,(Below.refl _ _).alloc (Nat.le_refl _) _,_,hb.size,rfl,zI _ _⟩
 simp only[apN,apC]
 refine QA 32 hL (by kernel_rfl) (by kernel_rfl) (fun _ _ _ _ _ h=>h) ?_ ?_
 ·refine Q0 rfl rfl ?_;intro g w hb u;have d30:(J3 wq.heap.size en ⟨esn,elo,ehi⟩ et ef el wr) (g 13) w:=yr u 30;obtain⟨q30,Q30,d30,hq30,hO30⟩:=d30;clear u;simp only[za,fLa,fLb,sTa,sTb];simp only[d30]
  exact⟨_,.inl ⟨rfl,fun w=>(by go_simp)⟩,rfl⟩
 intro g w2 hb hR;simp only[List.length_cons,List.length_nil,Nat.reduceAdd]at hR
 have e0:=yv hR 0
 have e1:=yv hR 1
 have e2:=yv hR 2
 have e3:=yv hR 3
 have e4:=yv hR 4
 have e5:=yv hR 5
 have e6:=yv hR 6
 have e7:=yv hR 7
 have e8:=yv hR 8
 have e9:=yv hR 9
 have e10:=yv hR 10
 have e11:=yv hR 11
 have e12:=yv hR 12
 have e13:=yv hR 13
 have e14:=yv hR 14
 have e15:=yv hR 15
 have e16:=yv hR 16
 have e17:=yv hR 17
 have e18:=yv hR 18
 have e19:=yv hR 19
 have e20:=yv hR 20
 have e21:=yv hR 21
 have e22:=yv hR 22
 have e23:=yv hR 23
 have e24:=yv hR 24
 have e25:=yv hR 25
 have e26:=yv hR 26
 have e27:=yv hR 27
 have e28:=yv hR 28
 have e29:(J3 wq.heap.size en ⟨esn,elo,ehi⟩ et ef el wr) (g 43) w2:=yr hR 29
 obtain⟨q29,Q29,e29,hq29,hO29⟩:=e29
 have e30:(J3 wq.heap.size en ⟨esn,elo,ehi⟩ et ef el wr) (g 13) w2:=yr hR 30
 obtain⟨q30,Q30,e30,hq30,hO30⟩:=e30
 have e31:(GuR wq.heap.size en ⟨esn,elo,ehi⟩ et ef el) (g 44) w2:=yr hR 31
 obtain⟨⟨qf1,qf2,qf3⟩,Qf,e31,hSf,hOf⟩:=e31
 have e32:=yv hR 32
 obtain⟨b33,p33,e33,c33⟩:=Q1 (zA hR (j:=33) (by decide)) rfl rfl
 clear hR;simp only[za,fLa,fLb,sTa,sTb]
 simp only[e0,e1,e2,e3,e4,e5,e6,e7,e8,e9,e10,e11,e12,e13,e14,e15,e16,e17,e18,e19,e20,e21,e22,e23,e24,e25,e26,e27,e28,e29,e30,e31,e32,e33]
 clear e0 e1 e2 e3 e4 e5 e6 e7 e8 e9 e10 e11 e12 e13 e14 e15 e16 e17 e18 e19 e20 e21 e22 e23 e24 e25 e26 e27 e28 e29 e30 e31 e32 e33
 replace hL:=hL.gainPtr hb p33 c33 hSf hOf (by decide);clear p33 c33 hSf hOf hq29 hO29 hq30 hO30
 clear hb
 go_upto_region 3 with(first|(with_reducible refine zd hL ?_;clear hL;intro w1 hL))
 have HT:=Lib.hid (HS.out _ b33 ⟨en,⟨esn,elo,ehi⟩,et,ef,⟨qf1,qf2,qf3⟩⟩ ⟨⟨sp,sn,sc⟩,evs,Re,HR.out,((hL.turn (U:=fun w=>qq w ⟨en,⟨esn,elo,ehi⟩,et,ef,⟨qf1,qf2,qf3⟩⟩ ⟨en,⟨esn,elo,ehi⟩,et,ef,el⟩) (fun w h=>qq.mk' (d:=⟨en,⟨esn,elo,ehi⟩,et,ef,el⟩) h)).perm (List.Perm.swap _ _ _)).drop (List.Sublist.refl _) (fun S hS=>by
  rcases List.mem_cons.1 hS with rfl|hS
  ·exact List.mem_cons_of_mem _ List.mem_cons_self
  ·rcases List.mem_cons.1 hS with rfl|hS
   ·exact List.mem_cons_self
   ·exact List.mem_cons_of_mem _ (List.mem_cons_of_mem _ hS))⟩)
 clear HS
 go_wp2_with (first|(with_reducible refine lld hL ?_)|(go_at_call 153;refine HT.out.mono ?_;rintro e w3 ⟨rfl,hM⟩;dsimp only))
 (try simp only[Exit.inBlock,Exit.then]);(first|refine yP rfl rfl ?_|refine yQ rfl rfl ?_)
 exact⟨rfl,hM.dropF.drop1⟩
theorem qw.of {p:Pg}{is:Nat→Ins}{d:Pd}(h:jh p is d) (hp:zl p is=0):qw p d:=by
 refine⟨h.r hp,fun k hk j hj=>?_⟩
 obtain⟨m,h1,h2,-⟩:=Vw ((h.vg _ (qX hk)).sites _ (qX (d:=0) hj))
 exact⟨m,h1,by rw[h.fields];exact h2⟩
theorem qS.of {p:Pg}{is:Nat→Ins}{d:Pd}{w:World}{x:Pv}(h:jh p is d) (hp:zl p is=0) (hx:zN w x d):qS w x d:=by
 have hs:=(zx hp).1
 refine⟨hx,h.none,yE.of (h.r hp) hs,Qm (h.r hp) h.none,?_⟩
 have h1:=h.vars
 have h2:=h.fields
 have h3:=hs.v2
 have h4:=hs.n1
 omega
theorem zb1 {k:Int}(h:z6 k 1 19=true):k=1∨k=14∨k=2∨k=3∨k=11∨k=12∨k=13∨k=15∨k=17∨k=16∨k=18∨k=19∨z6 k 4 10=true:=by
 simp only[z6,Bool.and_eq_true,decide_eq_true_eq]at h ⊢
 omega
theorem zcC (w0:World) (bs:Nat) (i:Ins) (at' : Nat) (x:Pv) (d:Pd) (A:List zj) (D:List zw) (w:World) (p:Pg) (h:Stp w0 bs i at' x [] false false A D w) (ok:qS w0 x d) (hi:zY p i=0) (hd:qw p d) (ha:at' < d.fields.length) (hat:at'≤1000000):qo w0 bs i at' x d A D w:=by
 have hr:=qN hi
 have hf:=jL hi
 rcases zb1 hr.kd with hk|hk|hk|hk|hk|hk|hk|hk|hk|hk|hk|hk|hk
 ·exact zfb w0 bs i at' x d A D w p h ok hr hf hd ha hat hk
 ·exact zdT w0 bs i at' x d A D w p h ok hr hf hd ha hat hk
 ·exact zfc w0 bs i at' x d A D w p h ok hr hf hd ha hat hk
 ·exact zfd w0 bs i at' x d A D w p h ok hr hf hd ha hat hk
 ·exact zdU w0 bs i at' x d A D w p h ok hr hf hd ha hat hk
 ·exact zdV w0 bs i at' x d A D w p h ok hr hf hd ha hat hk
 ·exact zdW w0 bs i at' x d A D w p h ok hr hf hd ha hat hk
 ·exact zdG w0 bs i at' x d A D w p h ok hr hf hd ha hat hk
 ·exact zdH w0 bs i at' x d A D w p h ok hr hf hd ha hat hk
 ·exact zdX w0 bs i at' x d A D w p h ok hr hf hd ha hat hk
 ·exact zdY w0 bs i at' x d A D w p h ok hr hf hd ha hat hk
 ·exact zdZ w0 bs i at' x d A D w p h ok hr hf hd ha hat hk
 ·exact zaU w0 bs i at' x d A D w p h ok hr hf hd ha hat hk
structure y9 (w:World) (s:Sl) (es:List (Int × Pd)):Prop where
 n:s.n=es.length
 m:s.n≤maxLen
 ex:∃ evs:List EdV,ym w evs es∧je w 4 s.p s.n (fun k=>EdV.cells (evs.getD k JN))
theorem y9.nil (w:World):y9 w zn []:=⟨rfl,Nat.zero_le _,[],ym.nil w,⟨0,0,fun h=>absurd h (Nat.lt_irrefl 0),fun k hk=>absurd hk (Nat.not_lt_zero k)⟩⟩
theorem ym.grow {w w' : World}{evs:List EdV}{es:List (Int × Pd)}(h:ym w evs es) (hb:Below w.heap.size w w'):ym w' evs es:=⟨h.len,fun k hk=>⟨(h.at' k hk).1,(h.at' k hk).2.grow hb⟩⟩
theorem y9.grow {w w' : World}{s:Sl}{es:List (Int × Pd)}(h:y9 w s es) (hb:Below w.heap.size w w'):y9 w' s es:=by
 obtain⟨h1,h2,evs,h3,h4⟩:=h
 exact⟨h1,h2,evs,h3.grow hb,h4.grow hb⟩
def Ua (w w' : World) (s:Sl) (es:List (Int × Pd)):Prop:=Loc w w' [] [fun w=>y9 w s es]
theorem Ua.nil {w w' : World}(hb:Below w.heap.size w w'):Ua w w' zn []:=((Loc.start w).grow hb).pure (fun w=>y9.nil w)
theorem Loc.edges {w0 w:World}{K Re:List zj}{D:List zw}{s:Sl}{evs:List EdV}{es:List (Int × Pd)}(h:Loc w0 w (K++Re) ((fun w=>ym w evs es)::D)) (hR:zM 75 4 s.p s.n s.cap (evs.flatMap EdV.cells) Re):Loc w0 w K ((fun w=>y9 w s es)::D):=by
 refine h.facts (fun w' hr ht=>?_)
 obtain⟨h1,h2⟩:=hR.listC (B:=w0.heap.size) (w:=w') zff JN (by decide) ⟨((List.sublist_append_right K Re).map (fun e:zj=>e.1)).nodup h.nodup,fun e he=>⟨h.ids e (List.mem_append_right _ he),hr e he⟩⟩
 exact⟨h1.trans ht.len,hR.max,evs,ht,h2⟩
def Qg (is:Nat→Ins) (at' : Nat) (d:Pd):Y0:=if d.none=true then ⟨[],false,false⟩ else zU (is at') at' d
theorem zb2 (p:Pg) (is:Nat→Ins) (x:Pv) (d:Pd) (at' : Nat) (w:World) (hp:zl p is=0) (hc:qc w p is) (hx:zN w x d) (h:qd p is d=0) (hat:at' < p.n):
  Calls Tryz.prog 62 #[p.v,.int .i64 at',x.v] w fun e w'=>∃ s:Sl,e=.returned (.tuple #[.slice s.p s.n s.cap,.bool (Qg is at' d).wr,.bool (Qg is at' d).fl])∧Ua w w' s (Qg is at' d).es:=by
 have hpr:=zx hp
 have hk6:=hpr.1.n1
 cases hdn:d.none with
 | true=>
  have hxe:=hx.e
  rw[hdn]at hxe
  rw[show Qg is at' d=⟨[],false,false⟩ from if_pos hdn]
  clear hx h hc hpr hp
  obtain⟨xn,⟨xp,xvn,xc⟩,⟨xfp,xfn,xfc⟩⟩:=x
  dsimp only at hxe
  subst hxe
  have hL:=Loc.start w
  go_enter Tryz.func62,Tryz.ntmps62
  go_wp2_with (first|(with_reducible first|refine lld hL ?_|(refine lbx hL ?_;clear hL;intro bl w1 hL)))
  refine rt3 ?_
  exact⟨zn,rfl,Ua.nil hL.below⟩
 | false=>
  rw[show Qg is at' d=zU (is at') at' d from if_neg (by rw[hdn];decide)]
  have hok:=jh.of h hdn
  have hxe:=hx.e
  rw[hdn]at hxe
  have HS:=Lib.hid (fun bs A D w' h1=>zcC w bs (is at') at' x d A D w' p h1 (qS.of hok hp hx) (hpr.2 at' hat) (qw.of hok hp) (by rw[hok.fields];exact hat) (by omega))
  obtain⟨bc,oc,hpc,hcr⟩:=hc
  have hpc2:=hpc (by omega)
  have hI1:=zg.agg (P:=Tryz.prog) jE (hcr at' hat).1 (fun j v hj=>(hcr at' hat).2 j v hj) rfl
  have HI:=Lib.hid hI1
  clear hx h hpc hcr hpr hp hok hI1
  unfold qo at HS
  generalize is at'=i at *
  generalize zU i at' d=o at *
  obtain⟨oes,owr,ofl⟩:=o
  obtain⟨pv,pf,pc,pn,pcap⟩:=p
  obtain⟨xn,⟨xp,xvn,xc⟩,⟨xfp,xfn,xfc⟩⟩:=x
  obtain⟨ik,ito,ia,ib,inn,ig⟩:=i
  dsimp only at hxe hpc2 hat hk6 HS
  subst hxe hpc2
  have hL:=Loc.start w
  go_enter Tryz.func62,Tryz.ntmps62
  go_step
  go_step
  go_step
  ((with_reducible refine lbx hL ?_);clear hL;intro b3 w1 hL)
  ((with_reducible refine lbx hL ?_);clear hL;intro b5 w1 hL)
  go_upto_region 3 with(first|(with_reducible refine lld hL ?_))
  obtain⟨wq,hwq⟩:∃ x,x=w1:=⟨_,rfl⟩
  subst hwq
  refine zf [12,13,14,15,16,17,18,19,20] ?_
  refine dv0 ?_
  refine dv1 0 ?_
  refine dv0 ?_
  refine dv2 1 2 ?_
  apply zb
  ·intro g w hb u;replace hL:=hL.grow hb;have d3:=yv u 3;clear u;simp only[za,fLa,fLb,sTa,sTb];simp only[d3]
   refine zo HI.out hL rfl rfl ?_
   exact cY
  simp only[apN,apC]
  refine dv0 ?_
  refine dv0 ?_
  refine dv3 4 5 6 ?_
  apply Qi
  ·intro g w hb u;replace hL:=hL.grow hb;have d7:=yv u 7;clear u;simp only[za,fLa,fLb,sTa,sTb];simp only[d7]
   go_wp2
   exact⟨rfl,_,rfl,(Below.refl _ _).alloc (Nat.le_refl _) _,_,hb.size,rfl,zI _ _⟩
  simp only[apN,apC]
  refine zO hL (by kernel_rfl) (by kernel_rfl) ?_
  intro g w2 hb hR;simp only[List.length_cons,List.length_nil,Nat.reduceAdd]at hR
  have e0:=yv hR 0
  have e1:=yv hR 1
  have e2:=yv hR 2
  have e3:=yv hR 3
  have e4:=yv hR 4
  have e5:=yv hR 5
  have e6:=yv hR 6
  have e7:=yv hR 7
  obtain⟨b8,p8,e8,c8⟩:=Q1 (zA hR (j:=8) (by decide)) rfl rfl
  clear hR;simp only[za,fLa,fLb,sTa,sTb]
  simp only[e0,e1,e2,e3,e4,e5,e6,e7,e8]
  clear e0 e1 e2 e3 e4 e5 e6 e7 e8
  replace hL:=hL.gain hb p8 c8
  clear p8 c8
  clear hb
  have hM:Stp w b8 ⟨ik,ito,ia,ib,inn,ig⟩ at' ⟨false,⟨xp,xvn,xc⟩,⟨xfp,xfn,xfc⟩⟩ [] false false [(b5,_,_),(b3,_,_)] [] w2:=⟨zn,[],[],zM.nil,(hL.pure (S:=fun w=>ym w [] []) (fun w=>ym.nil w)).conv (by simp only[List.append_nil];rfl)⟩
  have HM:=Lib.hid (HS.out _ _ _ _ hM)
  clear hM HS
  go_upto_region 5 with(first|fail|(go_at_call 107;refine HM.out.mono ?_;clear hL;rintro e w3 ⟨rfl,⟨⟨sp,sn,sc⟩,evs,Re,hR,hL⟩⟩;clear HM;dsimp only))
  obtain⟨wq,hwq⟩:∃ x,x=w3:=⟨_,rfl⟩
  subst hwq
  refine zf [23,24,25,26,27,28,29,30,31,32,33,34,6,7,8] ?_
  refine dv0 ?_
  refine dv1 0 ?_
  refine dv1 1 ?_
  refine dv1 2 ?_
  refine dv0 ?_
  refine dv1 4 ?_
  refine dv1 5 ?_
  refine dv1 6 ?_
  refine dv0 ?_
  refine dv1 8 ?_
  refine dv1 9 ?_
  refine dv1 10 ?_
  refine dv1 3 ?_
  refine dv1 7 ?_
  refine dv1 11 ?_
  refine dnd hL ?_
  clear hL;intro w4 hL;simp only[zV,sTa,sTb]
  go_wp2
  refine rt3 ?_
  refine⟨⟨sp,sn,sc⟩,rfl,?_⟩
  exact(Loc.edges (K:=[_,_,_]) (s:=⟨sp,sn,sc⟩) hL hR).drop (List.nil_sublist _) (fun _ h=>h)
def zfL (wq:World) (es:List (Int × Pd)):Value→World→Prop:=fun v w=>∃ s:Sl,v=.tuple #[.slice s.p s.n s.cap,.bool false,.bool false,.int .i64 0]∧Ua wq w s es
theorem zfL.stable {wq:World}{es:List (Int × Pd)}:jC (zfL wq es):=by
 rintro v w w' hb ⟨r,h1,h2⟩;exact⟨r,h1,h2.grow hb⟩
def zgw (wq:World) (es:List (Int × Pd)):Value→World→Prop:=fun v w=>∃ s:Sl,v=.slice s.p s.n s.cap∧Ua wq w s es
theorem zgw.stable {wq:World}{es:List (Int × Pd)}:jC (zgw wq es):=by
 rintro v w w' hb ⟨r,h1,h2⟩;exact⟨r,h1,h2.grow hb⟩
end Go.Proofs.YtplcndmdkabmeaaGreatDoor
