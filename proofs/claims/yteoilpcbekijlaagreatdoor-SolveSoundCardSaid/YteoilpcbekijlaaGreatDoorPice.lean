/-  -/
import Derived.Test.YteoilpcbekijlaaGreatDoorPicb
import Derived.Test.YteoilpcbekijlaaGreatDoorDat
import Derived.Test.YteoilpcbekijlaaGreatDoorPica
import Derived.Test.YteoilpcbekijlaaGreatDoorEnd0
import Derived.Test.YteoilpcbekijlaaGreatDoorRrn
import Derived.Test.YteoilpcbekijlaaGreatDoorPicX0
set_option linter.unusedSimpArgs false
set_option linter.unusedVariables false
set_option maxRecDepth 100000
set_option maxHeartbeats 1600000
namespace Go.Proofs.YteoilpcbekijlaaGreatDoor
open Go.RowKit
def siteV (s:Rs) (v:Vl):Int:=if v.kind=3 then (s.thing v.n.toNat).1 else -1
def siteF (ths:Nat→Th) (v:Vl):Int:=if v.kind=3 then (ths v.n.toNat).site else -1
abbrev heldR (d:Res) (v:Vl) (site:Int):Bool:=held (d.gu nilSl) d.l v site
theorem heldR_gu (d:Res) (s:Sl) (v:Vl) (site:Int):held (d.gu s) d.l v site=heldR d v site:=rfl
def lostV (d:Pd) (s:Rs):Bool:=anyN (fun k=>!heldR (d.var k) (s.val k) (siteV s (s.val k))) s.vars.length
def lostF (d:Pd) (s:Rs) (k:Nat):Bool:=anyN (fun j=>!heldR (d.field (s.thing k).1.toNat j) (s.field k j) (siteV s (s.field k j))) (s.thing k).2.length
def lostT (d:Pd) (s:Rs):Bool:=anyN (lostF d s) s.things.length
def showsD (d:Pd) (s:Rs):Bool:=!d.none&&(!lostV d s && !lostT d s)
structure ShowOk (d:Pd) (s:Rs):Prop where
 nv:d.vars.length=s.vars.length
 site:∀ k,k<s.things.length→∃ j:Nat,(s.thing k).1=j∧j<d.fields.length∧(d.row j).length=(s.thing k).2.length
 vals:∀ k,k<s.vars.length→isValue (s.val k) s.things.length=true
 fvals:∀ k,k<s.things.length→∀ j,j<(s.thing k).2.length→isValue (s.field k j) s.things.length=true
theorem isValue_thing {v:Vl}{n:Nat}(h:isValue v n=true) (hk:v.kind=3):∃ m:Nat,v.n=m∧m<n:=by
 unfold isValue at h
 rw[hk]at h
 simp[betw]at h
 exact⟨v.n.toNat,by omega,by omega⟩
theorem siteF_eq {s:Rs}{ths:Nat→Th}(h:∀ k,k<s.things.length→(ths k).site=(s.thing k).1) {v:Vl}(hv:isValue v s.things.length=true):siteF ths v=siteV s v:=by
 unfold siteF siteV
 split
 ·rename_i hk
  obtain⟨m,hm,hlt⟩:=isValue_thing hv hk
  exact h _ (by omega)
 ·rfl
theorem enterV1:∀ args w,(callFunc 112 args).run Tryz.prog w=.ok (.enter 112 args) w:=fun args w=>by kernel_rfl
theorem enterV2:∀ args w,(callFunc 115 args).run Tryz.prog w=.ok (.enter 115 args) w:=fun args w=>by kernel_rfl
theorem tGV:CellT Tryz.prog 154:=⟨by kernel_rfl,by kernel_rfl⟩
theorem zGV:ZeroT Tryz.prog 154 [.nilFunc]:=⟨by kernel_rfl⟩
theorem iGV:SizeT Tryz.prog 154 1:=⟨by kernel_rfl⟩
theorem shows1_any (ts:Sl) (ths:Nat→Th) (g:Gu) (l:List Int) (v:Vl) (b:Nat) (w:World) (hn:ts.n≤9223372036854775807) (hrd:ReadsAt Tryz.prog 43 w b 2 ts.v) (hth:ListC w 2 ts.p ts.n (fun k=>[.int .i64 (ths k).site,.slice (ths k).fs.p (ths k).fs.n (ths k).fs.cap]))
  (hok:isValue v ts.n=true) (hl:IntsAt w g.s l):
  Calls Tryz.prog 112 #[g.v,v.v,.pointer (some ⟨b,0,none⟩)] w fun e w'=>e=.returned (.bool (held g l v (siteF ths v)))∧Below w.heap.size w w':=by
 have HG:=Lib.hid (fun w' (hb:Below w.heap.size w w')=>gheld_any g l v (siteF ths v) w' (hl.grow hb))
 have HRD:=Lib.hid hrd
 clear hl hrd
 generalize hh:held g l v (siteF ths v)=hd at HG ⊢
 clear hh
 by_cases hk:v.kind=3
 ·obtain⟨m,hm,hlt⟩:=isValue_thing hok hk
  obtain⟨bt,ot,hp,hc⟩:=hth.ex
  have hr:=ReadsAt.cell (P:=Tryz.prog) tInt (hc m hlt).1 ((hc m hlt).2 0 _ rfl)
  have hs:siteF ths v=(ths m).site:=by unfold siteF;rw[if_pos hk,hm];rfl
  rw[hs]at HG
  clear hs hok hth hc
  generalize (ths m).site=si at hr HG
  have hp2:=hp (by omega)
  clear hp
  obtain⟨vk,vn⟩:=v
  obtain⟨tp,tn,tc⟩:=ts
  obtain⟨gl,⟨gn,glo,ghi⟩,gt,gf,⟨gp,gk,gc⟩⟩:=g
  dsimp only at hk hm hlt hn hp2
  subst hk hm hp2
  have HR:=Lib.hid hr
  clear hr
  dsimp only[Sl.v]at HRD
  have hL:=Loc.start w
  go_enter Tryz.func112,Tryz.ntmps112
  go_wp2_with (first|(with_reducible refine ldB HRD.out hL ?_)|(with_reducible refine ldB HR.out hL ?_)|(with_reducible first|refine lld hL ?_|((first|refine lbx hL ?_|refine lal hL ?_|refine lbs hL ?_);clear hL;intro bl w1 hL)|(refine lst' hL ?_;clear hL;intro w1 hL))|(go_at_call 113;refine(HG.out _ hL.below).mono ?_;rintro e w1 ⟨rfl,hb⟩;replace hL:=hL.grow hb;clear hb;dsimp only))
  (try simp only[Exit.inBlock,Exit.then]);refine rt1 ?_
  exact⟨rfl,hL.below⟩
 ·have hs:siteF ths v=-1:=by unfold siteF;rw[if_neg hk]
  rw[hs]at HG
  obtain⟨vk,vn⟩:=v
  obtain⟨gl,⟨gn,glo,ghi⟩,gt,gf,⟨gp,gk,gc⟩⟩:=g
  dsimp only at hk
  have k0:(vk==3)=false:=beq_eq_false_iff_ne.2 hk
  clear hk hs hok hth HRD
  have hL:=Loc.start w
  go_enter Tryz.func112,Tryz.ntmps112
  go_wp2_with (first|(with_reducible first|refine lld hL ?_|((first|refine lbx hL ?_|refine lal hL ?_|refine lbs hL ?_);clear hL;intro bl w1 hL)|(refine lst' hL ?_;clear hL;intro w1 hL))|(go_at_call 113;refine(HG.out _ hL.below).mono ?_;rintro e w1 ⟨rfl,hb⟩;replace hL:=hL.grow hb;clear hb;dsimp only))
  (try simp only[Exit.inBlock,Exit.then]);refine rt1 ?_
  exact⟨rfl,hL.below⟩
theorem equalN_self {a:Nat}(q:Nat→Bool):equalN a a q=!anyN (fun k=>!q k) a:=by simp[equalN]
theorem rowHeld_any (ts:Sl) (ths:Nat→Th) (s:Rs) (hth:∀ k,k<s.things.length→(ths k).site=(s.thing k).1) (hnt:ts.n=s.things.length) (x y:Sl) (ds:List Res) (vs:Nat→Vl) (b:Nat) (w:World) (hn:ts.n≤9223372036854775807) (hrd:ReadsAt Tryz.prog 43 w b 2 ts.v)
  (hlt:ListC w 2 ts.p ts.n (fun k=>[.int .i64 (ths k).site,.slice (ths k).fs.p (ths k).fs.n (ths k).fs.cap])) (hx:RowIs w x ds) (hy:ListC w 2 y.p y.n (fun k=>(vs k).cells)) (hyn:y.n=ds.length) (hvs:∀ k,k<ds.length→isValue (vs k) s.things.length=true):
  Calls Tryz.prog 114 #[x.v,y.v,.func (.func 112) #[] #[.pointer (some ⟨b,0,none⟩)]] w fun e w'=>e=.returned (.bool (!anyN (fun k=>!heldR (ds.getD k zeroD) (vs k) (siteV s (vs k))) ds.length))∧Below w.heap.size w w':=by
 obtain⟨ss,hl,hi⟩:=hx.ex
 have hm:=hx.m
 have hxn:=hx.n
 have h:=equalGV x y (fun k=>(ds.getD k zeroD).gu (ss k)) vs (fun k=>heldR (ds.getD k zeroD) (vs k) (siteV s (vs k))) 112 (.pointer (some ⟨b,0,none⟩)) w hm (by omega) hl hy enterV1 (fun k h1 h2 w' hb=>by
  have h3:=hvs k (by omega)
  have h4:=shows1_any ts ths ((ds.getD k zeroD).gu (ss k)) (ds.getD k zeroD).l (vs k) b w' hn (hrd.grow hb) (hlt.grow hb) (by rw[hnt];exact h3) ((hi k h1).grow hb)
  rw[siteF_eq hth h3,heldR_gu]at h4
  exact h4)
 rw[hxn,hyn,equalN_self]at h
 exact h
theorem shows2_any (ts:Sl) (ths:Nat→Th) (s:Rs) (hth:∀ k,k<s.things.length→(ths k).site=(s.thing k).1) (hnt:ts.n=s.things.length) (fs:Sl) (dss:List (List Res)) (t:Th) (vs:Nat→Vl) (b2 b3 b5:Nat) (w:World) (hn:ts.n≤9223372036854775807)
  (hr2:ReadsAt Tryz.prog 52 w b2 2 fs.v) (hr3:ReadsAt Tryz.prog 43 w b3 2 ts.v) (hr5:ReadsAt Tryz.prog 154 w b5 0 (.func (.func 112) #[] #[.pointer (some ⟨b3,0,none⟩)]))
  (hlt:ListC w 2 ts.p ts.n (fun k=>[.int .i64 (ths k).site,.slice (ths k).fs.p (ths k).fs.n (ths k).fs.cap])) (hx:RowsIs w fs dss) (hy:ListC w 2 t.fs.p t.fs.n (fun k=>(vs k).cells)) (j:Nat) (hj:j<dss.length) (htj:t.site=j) (hyn:t.fs.n=(dss.getD j []).length) (hvs:∀ k,k<t.fs.n→isValue (vs k) s.things.length=true):
  Calls Tryz.prog 115 #[t.v,.pointer (some ⟨b2,0,none⟩),.pointer (some ⟨b5,0,none⟩)] w fun e w'=>e=.returned (.bool (anyN (fun k=>!heldR ((dss.getD j []).getD k zeroD) (vs k) (siteV s (vs k))) t.fs.n))∧Below w.heap.size w w':=by
 obtain⟨rs,hl,hi⟩:=hx.ex
 have hxn:=hx.n
 have hxm:=hx.m
 have he:=fun w' (hb:Below w.heap.size w w')=>rowHeld_any ts ths s hth hnt (rs j) t.fs (dss.getD j []) vs b3 w' hn (hr3.grow hb) (hlt.grow hb) ((hi j (by omega)).grow hb) (hy.grow hb) hyn (fun k hk=>hvs k (by omega))
 rw[← hyn]at he
 generalize anyN (fun k=>!heldR ((dss.getD j []).getD k zeroD) (vs k) (siteV s (vs k))) t.fs.n=res at he ⊢
 obtain⟨bf,of,hpf,hcf⟩:=hl.ex
 have hpp:=hpf (by omega)
 have hrw:=readRow (hcf j (by omega)).1 (hcf j (by omega)).2
 clear hpf hcf hl hi hx hy hlt hr3 hth hvs hnt hyn
 generalize rs j=row at he hrw
 generalize dss.length=n at hj hxn
 obtain⟨fp,fn,fc⟩:=fs
 obtain⟨site,⟨tp,tn,tc⟩⟩:=t
 obtain⟨rp,rn,rc⟩:=row
 dsimp only at htj hxn hxm hpp hr2
 subst htj hpp
 have hj' : j<fn:=by omega
 clear hj hxn
 dsimp only[Sl.v]at he hrw hr2
 have HE:=Lib.hid he
 have HR2:=Lib.hid hr2
 have HR5:=Lib.hid hr5
 have HRW:=Lib.hid hrw
 clear he hr2 hr5 hrw
 have hL:=Loc.start w
 go_enter Tryz.func115,Tryz.ntmps115
 go_upto_region 1 with(first|(with_reducible first|refine lld hL ?_|((first|refine lbx hL ?_|refine lal hL ?_|refine lbs hL ?_);clear hL;intro bl w1 hL)|(refine lst' hL ?_;clear hL;intro w1 hL)))
 refine draw_begin [5,6,7,8,9,10,11,12,13,14,15,4] ?_
 refine dv0 ?_
 apply draw_val
 ·intro g w hb u;replace hL:=hL.grow hb;have d0:=yv u 0;clear u;simp only[fillD,fLa,fLb,sTa,sTb];simp only[d0]
  refine loc_loadB HR2.out hL rfl rfl ?_
  exact cY
 simp only[apN,apC]
 refine dv0 ?_
 refine dv1 2 ?_
 refine dv2 1 3 ?_
 apply draw_val
 ·intro g w hb u;replace hL:=hL.grow hb;have d4:=yv u 4;clear u;simp only[fillD,fLa,fLb,sTa,sTb];simp only[d4]
  refine loc_loadB HRW.out hL rfl rfl ?_
  exact cY
 simp only[apN,apC]
 refine dv0 ?_
 refine dv1 6 ?_
 apply draw_val
 ·intro g w hb u;replace hL:=hL.grow hb;clear u;simp only[fillD,fLa,fLb,sTa,sTb]
  refine loc_loadB HR5.out hL rfl rfl ?_
  exact cY
 simp only[apN,apC]
 apply draw_val
 ·intro g w hb u;replace hL:=hL.grow hb;have d5:=yv u 5;have d7:=yv u 7;have d8:=yv u 8;clear u;simp only[fillD,fLa,fLb,sTa,sTb];simp only[d5,d7,d8]
  go_wp2_with ((with_reducible refine(HE.out _ hL.below).mono ?_);rintro e w3 ⟨rfl,hb3⟩;dsimp only)
  exact⟨rfl,_,rfl,hb3,rfl⟩
 simp only[apN,apC]
 refine dv1 9 ?_
 refine dv1 10 ?_
 refine dnd hL ?_
 clear hL;intro w2 hL;simp only[fillX,sTa,sTb]
 go_wp2_with (first|(with_reducible first|refine lld hL ?_|((first|refine lbx hL ?_|refine lal hL ?_|refine lbs hL ?_);clear hL;intro bl w1 hL)|(refine lst' hL ?_;clear hL;intro w1 hL)))
 (try simp only[Exit.inBlock,Exit.then]);refine rt1 ?_
 exact⟨by simp,hL.below⟩
theorem shows_any (x:Pv) (d:Pd) (r:Rn) (s:Rs) (w:World) (hx:PicIs w x d) (hr:RunIs w r s) (ok:d.none=false→ShowOk d s):
  Calls Tryz.prog 58 #[x.v,r.v] w fun e w'=>e=.returned (.bool (showsD d s))∧Below w.heap.size w w':=by
 have hxe:=hx.e
 cases hdn:d.none with
 | true=>
  have hq:showsD d s=false:=by simp[showsD,hdn]
  rw[hq]
  rw[hdn]at hxe
  clear hx hr ok hq hdn
  obtain⟨xn,⟨xp,xvn,xc⟩,⟨xfp,xfn,xfc⟩⟩:=x
  obtain⟨ra,⟨vp,vn,vc⟩,⟨tp,tn,tc⟩,rt,⟨lp,ln,lc⟩,re⟩:=r
  dsimp only at hxe
  subst hxe
  have hL:=Loc.start w
  go_enter Tryz.func58,Tryz.ntmps58
  go_wp2_with (first|(with_reducible first|refine lld hL ?_|((first|refine lbx hL ?_|refine lal hL ?_|refine lbs hL ?_);clear hL;intro bl w1 hL)|(refine lst' hL ?_;clear hL;intro w1 hL)))
  (try simp only[Exit.inBlock,Exit.then]);refine rt1 ?_
  exact⟨rfl,hL.below⟩
 | false=>
  have ok:=ok hdn
  rw[hdn]at hxe
  have hq:showsD d s=(!lostV d s && !lostT d s):=by simp[showsD,hdn]
  rw[hq]
  obtain⟨ths,hra,hth⟩:=hr.ex
  have hnv:=hr.nv
  have hnt:=hr.nt
  have hts:=fun k hk=>(hth k hk).1
  have hev:=fun (b:Nat) w' (hb:Below w.heap.size w w') (hrd:ReadsAt Tryz.prog 43 w' b 2 r.things.v)=>rowHeld_any r.things ths s hts hnt x.vars r.vars d.vars s.val b w' hra.n2 hrd (hra.things.grow hb) (hx.vars.grow hb) (hra.vars.grow hb) (by rw[hnv];exact ok.nv.symm) (fun k hk=>ok.vals k (by rw[← ok.nv];exact hk))
  have hlv:(anyN (fun k=>!heldR (d.vars.getD k zeroD) (s.val k) (siteV s (s.val k))) d.vars.length)=lostV d s:=by rw[ok.nv];rfl
  rw[hlv]at hev
  have hct:=fun (b2 b3 b5:Nat) w' (hb:Below w.heap.size w w') (hr2:ReadsAt Tryz.prog 52 w' b2 2 x.fields.v) (hr3:ReadsAt Tryz.prog 43 w' b3 2 r.things.v) (hr5:ReadsAt Tryz.prog 154 w' b5 0 (.func (.func 112) #[] #[.pointer (some ⟨b3,0,none⟩)]))=>
   containsThings2 r.things.p r.things.n r.things.cap (fun k=>(ths k).v) (lostF d s) 115 (.pointer (some ⟨b2,0,none⟩)) (.pointer (some ⟨b5,0,none⟩)) w' hra.n2 ((hra.l.grow hb).things) ⟨enterV2,fun k hk w2 hb2=>by
    have hk' : k<s.things.length:=by rw[← hnt];exact hk
    obtain⟨j,e1,e2,e3⟩:=ok.site k hk'
    have hb3:=hb.trans (hb2.mono hb.size)
    have h:=shows2_any r.things ths s hts hnt x.fields d.fields (ths k) (s.field k) b2 b3 b5 w2 hra.n2 (hr2.grow hb2) (hr3.grow hb2) (hr5.grow hb2) (hra.things.grow hb3) (hx.fields.grow hb3) ((hra.fields k hk).2.grow hb3) j e2 (by rw[(hth k hk').1,e1]) (by rw[(hth k hk').2];exact e3.symm) (fun i hi=>ok.fvals k hk' i (by rw[← (hth k hk').2];exact hi))
    have e4:(anyN (fun i=>!heldR ((d.fields.getD j []).getD i zeroD) (s.field k i) (siteV s (s.field k i))) (ths k).fs.n)=lostF d s k:=by
     unfold lostF
     rw[(hth k hk').2,e1];rfl
    rw[e4]at h
    exact h⟩
  have hlt:anyN (lostF d s) r.things.n=lostT d s:=by rw[hnt];rfl
  rw[hlt]at hct
  clear hra hth hts hnv hnt hx hr ok hlv hlt hq
  generalize lostV d s=qv at hev ⊢
  generalize lostT d s=qt at hct ⊢
  obtain⟨xn,⟨xp,xvn,xc⟩,⟨xfp,xfn,xfc⟩⟩:=x
  obtain⟨ra,⟨vp,vn,vc⟩,⟨tp,tn,tc⟩,rt,⟨lp,ln,lc⟩,re⟩:=r
  dsimp only at hxe
  subst hxe
  dsimp only[Sl.v]at hev hct
  have HEV:=Lib.hid hev
  have HCT:=Lib.hid hct
  clear hev hct
  cases qv with
  | true=>
   have hL:=Loc.start w
   go_enter Tryz.func58,Tryz.ntmps58
   go_step
   go_step
   go_step
   ((with_reducible refine lbx hL ?_);clear hL;intro b2 w1 hL)
   ((with_reducible refine lbx hL ?_);clear hL;intro b3 w1 hL)
   go_wp2_with (first|(with_reducible first|refine lld hL ?_|((first|refine lbx hL ?_|refine lal hL ?_|refine lbs hL ?_);clear hL;intro bl w1 hL)|(refine lst' hL ?_;clear hL;intro w1 hL))|(refine loc_alloc hL rfl zGV ?_;clear hL;intro b5 w1 hL)|(refine loc_store hL rfl rfl InL.head rfl iGV rfl (Nat.le_refl _) rfl ?_;clear hL;intro w1 hL)|(refine ldO (Reads.cell tGV rfl) hL ?_)|(go_at_call 114;refine(HEV.out b3 _ hL.below (hL.readsG (b:=b3) (Tv:=43) (off:=2) (v:=.slice tp tn tc) cIn (Reads.cell tThings rfl))).mono ?_;rintro e w1 ⟨rfl,hb⟩;replace hL:=hL.grow hb;clear hb;dsimp only))
   (try simp only[Exit.inBlock,Exit.then]);refine rt1 ?_
   exact⟨rfl,hL.below⟩
  | false=>
   have hL:=Loc.start w
   go_enter Tryz.func58,Tryz.ntmps58
   go_step
   go_step
   go_step
   ((with_reducible refine lbx hL ?_);clear hL;intro b2 w1 hL)
   ((with_reducible refine lbx hL ?_);clear hL;intro b3 w1 hL)
   go_wp2_with (first|(with_reducible first|refine lld hL ?_|((first|refine lbx hL ?_|refine lal hL ?_|refine lbs hL ?_);clear hL;intro bl w1 hL)|(refine lst' hL ?_;clear hL;intro w1 hL))|(refine loc_alloc hL rfl zGV ?_;clear hL;intro b5 w1 hL)|(refine loc_store hL rfl rfl InL.head rfl iGV rfl (Nat.le_refl _) rfl ?_;clear hL;intro w1 hL)|(refine ldO (Reads.cell tGV rfl) hL ?_)|(go_at_call 114;refine(HEV.out b3 _ hL.below (hL.readsG (b:=b3) (Tv:=43) (off:=2) (v:=.slice tp tn tc) cIn (Reads.cell tThings rfl))).mono ?_;rintro e w1 ⟨rfl,hb⟩;replace hL:=hL.grow hb;clear hb;dsimp only)|(go_at_call 104;refine(HCT.out b2 b3 b5 _ hL.below (hL.readsG (b:=b2) (Tv:=52) (off:=2) (v:=.slice xfp xfn xfc) cIn (Reads.cell tRows rfl)) (hL.readsG (b:=b3) (Tv:=43) (off:=2) (v:=.slice tp tn tc) cIn (Reads.cell tThings rfl)) (hL.readsG (b:=b5) (Tv:=154) (off:=0) (v:=.func (.func 112) #[] #[.pointer (some ⟨b3,0,none⟩)]) cIn (Reads.cell tGV rfl))).mono ?_;rintro e w1 ⟨rfl,hb⟩;replace hL:=hL.grow hb;clear hb;dsimp only))
   (try simp only[Exit.inBlock,Exit.then]);refine rt1 ?_
   exact⟨by simp,hL.below⟩
theorem anyN_none {q:Nat→Bool}{n:Nat}(h:¬ anyN q n=true) (k:Nat) (hk:k<n):q k=false:=by
 cases hq:q k with
 | false=>rfl
 | true=>exact(h (anyN_yes hk hq)).elim
theorem pHolds_ok (p:Pg) (is:Nat→Ins) (x:Pv) (d:Pd) (r:Rn) (s:Rs) (ths:Nat→Th) (w:World) (hn:p.n≤9223372036854775807) (hc:CodeAt w p is) (hx:PicIs w x d) (hl:RunL w r s.val ths s.field) (hr:RunIs w r s) (h0:cp1 p is d=0) (h1:rightRun p is r s.val ths s.field=0) (ok:d.none=false→ShowOk d s):
  Calls Tryz.prog 22 #[p.v,x.v,r.v] w fun q w'=>q=.returned (.tuple #[.bool (showsD d s),.int .i64 0])∧Below w.heap.size w w':=by
 have HR:=Lib.hid (fun (b:Nat) (w' : World) (hb:Below w.heap.size w w') (hh:w'.heap[b]? = some (.cells x.cells.toArray 54 (0,0)))=>(show Calls Tryz.prog 56 #[p.v,.slice (some ⟨b,0,none⟩) 1 1] w' fun q w2=>q=.returned (.int .i64 (cp1 p is d))∧Below w'.heap.size w' w2 from pready_any p is (some ⟨b,0,none⟩) 1 1 (fun _=>x) (fun _=>d) w' hn (hc.grow hb) (pics1 hh (hx.grow hb))))
 rw[h0]at HR
 have hg:=fun w' (hb:Below w.heap.size w w')=>right_any p is r s.val ths s.field w' hn (hc.grow hb) (hl.grow hb)
 rw[h1]at hg
 have HG:=Lib.hid hg
 have HS:=Lib.hid (fun w' (hb:Below w.heap.size w w')=>shows_any x d r s w' (hx.grow hb) (hr.grow hb) ok)
 generalize showsD d s=q at HS ⊢
 clear h0 h1 hc hx hr hg hl ok
 obtain⟨ra,⟨vp,vn,vc⟩,⟨tp,tn,tc⟩,rt,⟨lp,ln,lc⟩,re⟩:=r
 obtain⟨xn,⟨xp,xvn,xc⟩,⟨xfp,xfn,xfc⟩⟩:=x
 have hL:=Loc.start w
 go_enter Tryz.func22,Tryz.ntmps22
 go_wp2_with (first|(with_reducible first|refine lld hL ?_|((first|refine lbx hL ?_|refine lal hL ?_|refine lbs hL ?_);clear hL;intro bl w1 hL)|(refine lst' hL ?_;clear hL;intro w1 hL))|(go_at_call 56;refine(HR.out bl _ hL.below (hL.heap cIn)).mono ?_;rintro e w1 ⟨rfl,hb⟩;replace hL:=hL.grow hb;clear hb;dsimp only)|(go_at_call 57;refine(HG.out _ hL.below).mono ?_;rintro e w1 ⟨rfl,hb⟩;replace hL:=hL.grow hb;clear hb;dsimp only)|(go_at_call 58;refine(HS.out _ hL.below).mono ?_;rintro e w1 ⟨rfl,hb⟩;replace hL:=hL.grow hb;clear hb;dsimp only))
 (try simp only[Exit.inBlock,Exit.then]);refine rt2 ?_
 exact⟨rfl,hL.below⟩
theorem held_both {p:Pg}{is:Nat→Ins}{f:Span→Span→Span}(hf:Puts f) {d e:Res}(hd:rightD p is d=0) (he:rightD p is e=0) (v:Vl) (site:Int) (h:heldR d v site=true∨heldR e v site=true):heldR (bothD f d e) v site=true:=by
 obtain⟨a1,_,_⟩:=rightD_parts hd
 obtain⟨b1,_,_⟩:=rightD_parts he
 unfold heldR held at *
 dsimp only[Res.gu]at *
 split
 ·rename_i hk
  simp only[hk,if_true]at h
  rcases h with h|h
  ·exact hf.inl _ _ _ a1 b1 h
  ·exact hf.inr _ _ _ a1 b1 h
 ·rename_i hk
  simp only[hk,if_false]at h
  split
  ·rename_i hk2
   simp only[hk2,if_true]at h
   revert h
   cases d.tr<;>cases e.tr<;>cases d.fa<;>cases e.fa<;>cases (v.n==1)<;>cases (v.n==0)<;>simp
  ·rename_i hk2
   simp only[hk2,if_false]at h
   split
   ·rename_i hk3
    simp only[hk3,if_true]at h
    rw[hasI_iff]at *
    rw[(mix_asc d.l e.l).2]
    rcases h with h|h
    ·exact .inl h
    ·exact .inr (hasI_iff.1 h)
   ·rename_i hk3
    simp only[hk3,if_false]at h
    rcases h with h|h
    ·simp[h]
    ·simp[h]
theorem shows_raw {p:Pg}{is:Nat→Ins}{f:Span→Span→Span}(hf:Puts f) {d e:Pd}{s:Rs}(hd:Rp p is d) (he:Rp p is e) (ok:ShowOk d s) (h:showsD d s=true∨showsD e s=true):showsD (bothRaw f d e) s=true:=by
 have hff:d.fields.length=e.fields.length:=by rw[hd.fields,he.fields]
 have hrl:∀ k,k<d.fields.length→(d.row k).length=(e.row k).length:=fun k hk=>by
  have h1:=hd.rows k hk
  have h2:=he.rows k (by rw[← hff];exact hk)
  omega
 have hvl:d.vars.length=e.vars.length:=by have:=hd.vars;have:=he.vars;omega
 have hrow:∀ k,k<d.fields.length→(bothRaw f d e).row k=bothRow f (d.row k) (e.row k):=fun k hk=>bothRows_at f d e k _ hk
 have hfld:∀ k j,k<d.fields.length→j<(d.row k).length→(bothRaw f d e).field k j=bothD f (d.field k j) (e.field k j):=fun k j hk hj=>by
  show ((bothRaw f d e).row k).getD j zeroD=_
  rw[hrow k hk,bothTo_at f _ _ j _ hj]
 have hV:∀ k,k<s.vars.length→heldR (d.var k) (s.val k) (siteV s (s.val k))=true∨heldR (e.var k) (s.val k) (siteV s (s.val k))=true:=fun k hk=>by
  rcases h with h|h
  ·left
   simp only[showsD,Bool.and_eq_true,Bool.not_eq_true']at h
   have:=anyN_none (by rw[show anyN _ _=lostV d s from rfl,h.2.1];decide) k hk
   simpa using this
  ·right
   simp only[showsD,Bool.and_eq_true,Bool.not_eq_true']at h
   have:=anyN_none (by rw[show anyN _ _=lostV e s from rfl,h.2.1];decide) k hk
   simpa using this
 have hF:∀ k j,k<s.things.length→j<(s.thing k).2.length→heldR (d.field (s.thing k).1.toNat j) (s.field k j) (siteV s (s.field k j))=true∨heldR (e.field (s.thing k).1.toNat j) (s.field k j) (siteV s (s.field k j))=true:=fun k j hk hj=>by
  rcases h with h|h
  ·left
   simp only[showsD,Bool.and_eq_true,Bool.not_eq_true']at h
   have h2:=anyN_none (by rw[show anyN _ _=lostT d s from rfl,h.2.2];decide) k hk
   have h3:=anyN_none (by rw[show anyN _ _=lostF d s k from rfl,h2];decide) j hj
   simpa using h3
  ·right
   simp only[showsD,Bool.and_eq_true,Bool.not_eq_true']at h
   have h2:=anyN_none (by rw[show anyN _ _=lostT e s from rfl,h.2.2];decide) k hk
   have h3:=anyN_none (by rw[show anyN _ _=lostF e s k from rfl,h2];decide) j hj
   simpa using h3
 have q1:lostV (bothRaw f d e) s=false:=by
  unfold lostV
  refine anyN_no fun k hk=>?_
  have hk' : k<d.vars.length:=by rw[ok.nv];exact hk
  have e1:(bothRaw f d e).var k=bothD f (d.var k) (e.var k):=bothTo_at f _ _ k _ hk'
  rw[e1,held_both hf (hd.vg k hk') (he.vg k (by rw[← hvl];exact hk')) _ _ (hV k hk)]
  rfl
 have q2:lostT (bothRaw f d e) s=false:=by
  unfold lostT
  refine anyN_no fun k hk=>?_
  unfold lostF
  refine anyN_no fun j hj=>?_
  obtain⟨i,e1,e2,e3⟩:=ok.site k hk
  have e4:(s.thing k).1.toNat=i:=by omega
  have h5:=hF k j hk hj
  rw[e4]at h5 ⊢
  have hj' : j<(d.row i).length:=by rw[e3];exact hj
  rw[hfld i j e2 hj',held_both hf (hd.fg i j e2 hj') (he.fg i j (by rw[← hff];exact e2) (by rw[← hrl i e2];exact hj')) _ _ h5]
  rfl
 unfold showsD
 rw[q1,q2]
 rfl
theorem shows_both' {p:Pg}{is:Nat→Ins}{f:Span→Span→Span}(hf:Puts f) {d e:Pd}{s:Rs}(hp:checkProg p is=0) (hd:rightP p is d=0) (he:rightP p is e=0) (ok:e.none=false→ShowOk e s) (h:showsD d s=true) (okd:ShowOk d s):showsD (bothP f e d) s=true:=by
 have hdn:d.none=false:=by
  cases hq:d.none with
  | false=>rfl
  | true=>simp[showsD,hq]at h
 unfold bothP
 cases hen:e.none with
 | true=>
  rw[if_pos rfl,hdn,if_neg (by decide),bothRaw_self (RightPd.of hd hp hdn) hdn]
  exact h
 | false=>
  rw[if_neg (by decide),hdn,if_neg (by decide)]
  exact shows_raw hf (Rp.of he hen) (Rp.of hd hdn) (ok hen) (.inr h)
end Go.Proofs.YteoilpcbekijlaaGreatDoor
