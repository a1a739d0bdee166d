/- The reference's StepPicture, whole; SameEdges at edges that say the same. Conditions: right pictures; what they read lies in memory that was there. | The walks over the reference's SameGuess, SameGuesses, SamePicture of any two: are they the same data? Conditions: what they read lies in memory that was there. -/
import Derived.Test.YtplcndmdkabmeaaGreatDoorRspa
import Derived.Test.YtplcndmdkabmeaaGreatDoorRspb
import Derived.Test.YtplcndmdkabmeaaGreatDoorRefStepJ
import Derived.Test.YtplcndmdkabmeaaGreatDoorRefStepK
import Derived.Test.YtplcndmdkabmeaaGreatDoorPicc
import Derived.Test.YtplcndmdkabmeaaGreatDoorStpa
set_option linter.unusedSimpArgs false
set_option linter.unusedVariables false
set_option maxRecDepth 100000
set_option maxHeartbeats 1000000
namespace Go.Proofs.YtplcndmdkabmeaaGreatDoor
open Go.RowKit
theorem zef (p:Pg) (is:Nat→Ins) (x:Pv) (d:Pd) (gx:List Gu) (at' : Nat) (w:World) (hp:zl p is=0) (hc:qc w p is) (hx:zN w x d) (hgx:J6 w x d gx) (ok:jh p is d) (hat:at' < p.n):jj p at' x d gx (zU (is at') at' d) w:=by
 have hr:=qN ((zx hp).2 at' hat)
 rcases zb1 hr.kd with hk|hk|hk|hk|hk|hk|hk|hk|hk|hk|hk|hk|hk
 ·exact zgA p is _ x d gx at' w hp hc hx hgx ok hat rfl hk
 ·exact zf3 p is _ x d gx at' w hp hc hx hgx ok hat rfl hk
 ·have h2:=hr.n2 hk
  rcases (by omega:(is at').n=0∨(is at').n=1) with h3|h3
  ·exact zfp p is _ x d gx at' w hp hc hx hgx ok hat rfl hk h3
  ·exact zfq p is _ x d gx at' w hp hc hx hgx ok hat rfl hk h3
 ·exact zgB p is _ x d gx at' w hp hc hx hgx ok hat rfl hk
 ·exact zgb p is _ x d gx at' w hp hc hx hgx ok hat rfl hk
 ·exact zgc p is _ x d gx at' w hp hc hx hgx ok hat rfl hk
 ·exact zgd p is _ x d gx at' w hp hc hx hgx ok hat rfl hk
 ·exact zfT p is _ x d gx at' w hp hc hx hgx ok hat rfl hk
 ·exact zgu p is _ x d gx at' w hp hc hx hgx ok hat rfl hk
 ·exact zf2 p is _ x d gx at' w hp hc hx hgx ok hat rfl hk
 ·exact zf1 p is _ x d gx at' w hp hc hx hgx ok hat rfl hk
 ·exact zf0 p is _ x d gx at' w hp hc hx hgx ok hat rfl hk
 ·simp only[z6,Bool.and_eq_true,decide_eq_true_eq]at hk
  rcases (by omega:(is at').kind=4∨(is at').kind=10∨(5≤(is at').kind∧(is at').kind≤9)) with h|h|h
  ·exact zgH p is _ x d gx at' w hp hc hx hgx ok hat rfl h
  ·exact zge p is _ x d gx at' w hp hc hx hgx ok hat rfl h
  ·exact zfr p is _ x d gx at' w hp hc hx hgx ok hat rfl h
theorem zcc (p:Pg) (is:Nat→Ins) (x:Pv) (d:Pd) (gx:List Gu) (at' : Nat) (w:World) (hp:zl p is=0) (hc:qc w p is) (hx:zN w x d) (hgx:J6 w x d gx) (h:qd p is d=0) (hat:at' < p.n):jj p at' x d gx (Qg is at' d) w:=by
 cases hdn:d.none with
 | false=>
  rw[show Qg is at' d=zU (is at') at' d from if_neg (by rw[hdn];decide)]
  exact zef p is x d gx at' w hp hc hx hgx (jh.of h hdn) hat
 | true=>
  have hxe:=hx.e
  rw[hdn]at hxe
  rw[show Qg is at' d=⟨[],false,false⟩ from if_pos hdn]
  unfold jj
  clear hx h hc hp hgx hdn
  obtain⟨xn,⟨xp,xvn,xc⟩,⟨xfp,xfn,xfc⟩⟩:=x
  dsimp only at hxe
  subst hxe
  have hL:=Loc.start w
  go_enter Tryz.func40,Tryz.ntmps40
  go_wp2_with (first|(with_reducible first|refine lld hL ?_|(refine lbx hL ?_;clear hL;intro bl w1 hL)))
  refine rt3 ?_
  exact⟨zn,rfl,Q2.nil hL.below⟩
theorem zN.gx {w:World}{x:Pv}{d:Pd}(h:zN w x d):∃ gx,J6 w x d gx:=by
 obtain⟨gx,h1,h2⟩:=h.vars.gus
 exact⟨gx,h1,h2⟩
theorem y9.reads {w:World}{s:Sl}{es:List (Int × Pd)}(h:y9 w s es):∃ (b o:Nat) (xs:Nat→Pv),(0<s.n→s.p=some ⟨b,o,none⟩)∧∀ k,k<s.n→zg Tryz.prog 3 w b (o+k*4) (.int .i64 (es.getD k (0,QU)).1)∧zg Tryz.prog 54 w b (o+k*4+1) (xs k).v∧zN w (xs k) (es.getD k (0,QU)).2:=by
 obtain⟨hn,hm,evs,hd,hl⟩:=h
 obtain⟨b,o,hp,hc⟩:=hl.ex
 refine⟨b,o,fun k=>(evs.getD k JN).x,hp,fun k hk=>?_⟩
 obtain⟨h1,h2⟩:=hc k hk
 obtain⟨h3,h4⟩:=hd.at' k (by omega)
 refine⟨?_,?_,h4⟩
 ·have h5:=zg.cell (P:=Tryz.prog) QQ h1 (h2 0 _ rfl)
  rw[← h3]
  exact h5
 ·refine zg.agg (P:=Tryz.prog) ZK h1 (fun j v hj=>?_) rfl
  have h6:=h2 (j+1) v (by simpa using hj)
  rw[show o+k*4+1+j=o+k*4+(j+1) by omega]
  exact h6
set_option maxHeartbeats 4000000
def yW (r q:Res):Bool:=r.null==q.null&&(r.span.none==q.span.none&&r.span.lo==q.span.lo&&r.span.hi==q.span.hi)&&r.tr==q.tr&&r.fa==q.fa&&ZH r.l q.l
def jS (ds es:List Res):Bool:=jy ds.length es.length fun k=>yW (ds.getD k zy) (es.getD k zy)
def ZV (fs gs:List (List Res)):Bool:=jy fs.length gs.length fun k=>jS (fs.getD k []) (gs.getD k [])
def Zu (d e:Pd):Bool:=d.none==e.none&&jS d.vars e.vars&&ZV d.fields e.fields
theorem Kr {α:Type}{l m:List α}(d:α) (hn:l.length=m.length) (h:∀ k,k<l.length→l.getD k d=m.getD k d):l=m:=by
 apply List.ext_getElem hn
 intro k h1 h2
 have:=h k h1
 rw[List.getD_eq_getElem?_getD,List.getD_eq_getElem?_getD,List.getElem?_eq_getElem h1,List.getElem?_eq_getElem h2]at this
 simpa using this
theorem Xz {a:Nat}(q:Nat→Bool):jy a a q=!j7 (fun k=>!q k) a:=by simp[jy]
theorem Vj {a b:Nat}{q:Nat→Bool}:jy a b q=true↔a=b∧∀ k,k<a→q k=true:=by
 unfold jy
 rw[Bool.and_eq_true,beq_iff_eq,Bool.not_eq_true']
 refine⟨fun ⟨h1,h2⟩=>⟨h1,fun k hk=>?_⟩,fun ⟨h1,h2⟩=>⟨h1,jx fun k hk=>by rw[h2 k hk];rfl⟩⟩
 cases hq:q k with
 | true=>rfl
 | false=>rw[qY (q:=fun k=>!q k) hk (by rw[hq];rfl)]at h2;cases h2
theorem zc3 {l m:List Int}:ZH l m=true↔l=m:=by
 refine⟨fun h=>?_,fun h=>by rw[h];exact zbF m⟩
 unfold ZH at h
 rw[Bool.and_eq_true,beq_iff_eq,Bool.not_eq_true']at h
 refine Kr 0 h.1 fun k hk=>?_
 cases hq:(l.getD k 0 != m.getD k 0) with
 | false=>simpa using hq
 | true=>rw[qY hk hq]at h;cases h.2
theorem Ui {r q:Res}:yW r q=true↔r=q:=by
 obtain⟨rn,⟨r1,r2,r3⟩,rt,rf,rl⟩:=r
 obtain⟨qn,⟨q1,q2,q3⟩,qt,qf,ql⟩:=q
 simp only[yW,Bool.and_eq_true,beq_iff_eq,zc3,Res.mk.injEq,zq.mk.injEq,and_assoc]
theorem ZW {ds es:List Res}:jS ds es=true↔ds=es:=by
 unfold jS
 rw[Vj]
 refine⟨fun ⟨h1,h2⟩=>Kr zy h1 fun k hk=>Ui.1 (h2 k hk),fun h=>by subst h;exact⟨rfl,fun k _=>Ui.2 rfl⟩⟩
theorem X8 {ds es:List (List Res)}:ZV ds es=true↔ds=es:=by
 unfold ZV
 rw[Vj]
 refine⟨fun ⟨h1,h2⟩=>Kr [] h1 fun k hk=>ZW.1 (h2 k hk),fun h=>by subst h;exact⟨rfl,fun k _=>ZW.2 rfl⟩⟩
theorem Vk {d e:Pd}:Zu d e=true↔d=e:=by
 obtain⟨d1,d2,d3⟩:=d
 obtain⟨e1,e2,e3⟩:=e
 simp only[Zu,Bool.and_eq_true,beq_iff_eq,ZW,X8,Pd.mk.injEq,and_assoc]
theorem G7 (r q:Res) (s t:Sl) (w:World) (hs:zp w s r.l) (ht:zp w t q.l):
  Calls Tryz.prog 112 #[(r.gu s).v,(q.gu t).v] w fun e w'=>e=.returned (.bool (yW r q))∧Below w.heap.size w w':=by
 have HI:=Lib.hid (fun w' (hb:Below w.heap.size w w')=>Gi s t r.l q.l w' (hs.grow hb) (ht.grow hb))
 have HQ:=Lib.hid (show yW r q=(r.null==q.null&&(r.span.none==q.span.none&&r.span.lo==q.span.lo&&r.span.hi==q.span.hi)&&r.tr==q.tr&&r.fa==q.fa&&ZH r.l q.l) from rfl)
 generalize ZH r.l q.l=si at HI HQ
 generalize yW r q=res at HQ ⊢
 clear hs ht
 obtain⟨rn,⟨r1,r2,r3⟩,rt,rf,rl⟩:=r
 obtain⟨qn,⟨q1,q2,q3⟩,qt,qf,ql⟩:=q
 dsimp only[Res.gu]at HI HQ ⊢
 obtain⟨sp,sc,scap⟩:=s
 obtain⟨tp,tc,tcap⟩:=t
 have hL:=Loc.start w
 go_enter Tryz.func112,Tryz.ntmps112
 go_upto_region 1 with(first|(with_reducible refine lbx hL ?_;clear hL;intro bl w1 hL))
 refine zJ [5,6,7,8,9,10,11,12,13,14,15,16,17,18,19,20,21,22,23,24,25,26,27,28,29,30,31,32,33,34,35,36,37,4] ?_
 refine dv0 ?_
 refine dv1 0 ?_
 refine dv0 ?_
 refine dv1 2 ?_
 refine dv2 1 3 ?_
 refine dv1 4 ?_
 refine dg0 5 ?_
 refine dg1 5 6 ?_
 refine dg0 5 ?_
 refine dg1 5 8 ?_
 refine' zG (j:=5) rfl rfl rfl (by decide) (by simp) ?_ ?_;rotate_left
 ·intro hcs;simp only[Bool.and_eq_true,jp,jq]at hcs;intro g w hb u;replace hL:=hL.grow hb;have d7:=yv u 7;simp only[hcs,beq_self_eq_true,Bool.and_self,Bool.true_and,Bool.and_true,zr]at d7;have d9:=yv u 9;simp only[hcs,beq_self_eq_true,Bool.and_self,Bool.true_and,Bool.and_true,zr]at d9;clear u;simp only[za,fLa,fLb,sTa,sTb];simp only[d7,d9]
  refine QB (a:=⟨r1,r2,r3⟩) (b:=⟨q1,q2,q3⟩) rfl rfl rfl ?_;go_wp2
  exact cY
 simp only[apN,apC]
 refine dpa 5 10 ?_
 refine dv1 11 ?_
 refine dg0 12 ?_
 refine dg1 12 13 ?_
 refine dg0 12 ?_
 refine dg1 12 15 ?_
 refine dg2 12 14 16 ?_
 refine dpa 12 17 ?_
 refine dv1 18 ?_
 refine dg0 19 ?_
 refine dg1 19 20 ?_
 refine dg0 19 ?_
 refine dg1 19 22 ?_
 refine dg2 19 21 23 ?_
 refine dpa 19 24 ?_
 refine dv1 25 ?_
 refine dg0 26 ?_
 refine dg1 26 27 ?_
 refine dg0 26 ?_
 refine dg1 26 29 ?_
 refine' zG (j:=26) rfl rfl rfl (by decide) (by simp) ?_ ?_;rotate_left
 ·intro hcs;simp only[Bool.and_eq_true,jp,jq]at hcs;intro g w hb u;replace hL:=hL.grow hb;have d28:=yv u 28;simp only[hcs,beq_self_eq_true,Bool.and_self,Bool.true_and,Bool.and_true,zr]at d28;have d30:=yv u 30;simp only[hcs,beq_self_eq_true,Bool.and_self,Bool.true_and,Bool.and_true,zr]at d30;clear u;simp only[za,fLa,fLb,sTa,sTb];simp only[d28,d30]
  go_wp2_with (go_at_call 167;refine(HI.out _ hL.below).mono ?_;rintro e w3 ⟨rfl,hb3⟩;dsimp only)
  exact⟨rfl,_,rfl,hb3,rfl⟩
 simp only[apN,apC]
 refine dpa 26 31 ?_
 refine dv1 32 ?_
 refine dns hL ?_
 clear hL;intro w2 hL;simp only[zV,sTa,sTb]
 go_wp2
 refine rt1 ?_
 exact⟨by rw[HQ.out];rfl,hL.below⟩
theorem Uj (a b:Sl) (ds es:List Res) (w:World) (ha:jW w a ds) (hb:jW w b es):
  Calls Tryz.prog 65 #[a.v,b.v] w fun q w'=>q=.returned (.bool (jS ds es))∧Below w.heap.size w w':=by
 obtain⟨sa,hal,hai⟩:=ha.ex
 obtain⟨sb,hbl,hbi⟩:=hb.ex
 have hna:=ha.n
 have hnb:=hb.n
 have hma:=ha.m
 have hmb:=hb.m
 obtain⟨ba,oa,hpa,hca⟩:=hal.ex
 obtain⟨bb,ob,hpb,hcb⟩:=hbl.ex
 obtain⟨ap,an,ac⟩:=a
 obtain⟨bp,bn,bc⟩:=b
 dsimp only at hna hnb hpa hca hpb hcb hai hbi hma hmb
 subst hna hnb
 have HPA:=Lib.hid hpa
 have HPB:=Lib.hid hpb
 have HCA:=Lib.hid hca
 have HCB:=Lib.hid hcb
 dsimp only[Sl.v]
 by_cases hlen:(ds.length:Int)=es.length
 ·have hlen' : ds.length=es.length:=by omega
  have h0:((ds.length:Int) != (es.length:Int))=false:=by simp[hlen]
  have HEQ:=Lib.hid (show jS ds es=!j7 (fun k=>!yW (ds.getD k zy) (es.getD k zy)) ds.length by unfold jS;rw[← hlen',Xz])
  have HS:=Lib.hid (fun k (hk:k<ds.length) w' (hb:Below w.heap.size w w')=>G7 (ds.getD k zy) (es.getD k zy) (sa k) (sb k) w' ((hai k hk).grow hb) ((hbi k (by omega)).grow hb))
  have HLE:=Lib.hid hlen'
  clear ha hb hal hbl hai hbi hpa hpb hca hcb hlen hlen'
  have hL:=Loc.start w
  go_enter Tryz.func65,Tryz.ntmps65
  go_wp2
  go_loopw [5] (fun c wr=>∃ k:Nat,k≤ds.length∧c=.int .i64 k∧(∀ j,j<k→(!yW (ds.getD j zy) (es.getD j zy))=false)∧Loc w wr [] []) (fun c _=>ds.length - (intOf c).toNat)
  case atStart=>exact⟨0,Nat.zero_le _,rfl,fun j hj=>absurd hj (by omega),hL⟩
  case round=>
   clear hL
   obtain⟨k,hk,rfl,hq,hL⟩:=hrel
   have HQ:=Lib.hid hq
   clear hq
   by_cases hlt:k<ds.length
   ·have hlt2:k<es.length:=by rw[← HLE.out];exact hlt
    obtain rfl:=HPA.out (by omega)
    obtain rfl:=HPB.out (by omega)
    clear HPA HPB
    have hr1:=zg.agg (P:=Tryz.prog) zZ (HCA.out k hlt).1 (HCA.out k hlt).2 rfl
    have hr2:=zg.agg (P:=Tryz.prog) zZ (HCB.out k hlt2).1 (HCB.out k hlt2).2 rfl
    have hs:=HS.out k hlt
    have hq0:∀ v,yW (ds.getD k zy) (es.getD k zy)=v→(!yW (ds.getD k zy) (es.getD k zy))=!v:=fun v h=>by rw[h]
    have HQK:=Lib.hid hq0
    clear hq0
    generalize hsm:yW (ds.getD k zy) (es.getD k zy)=sm at hs
    have HSM:=Lib.hid hsm
    clear hsm
    generalize ds.getD k zy=d at hr1 hs
    generalize es.getD k zy=e at hr2 hs
    generalize sa k=s at hr1 hs
    generalize sb k=t at hr2 hs
    obtain⟨dn,⟨ds',dlo,dhi⟩,dt,df,dl⟩:=d
    obtain⟨en,⟨es',elo,ehi⟩,et,ef,el⟩:=e
    obtain⟨sp,sc,scap⟩:=s
    obtain⟨tp,tc,tcap⟩:=t
    dsimp only[Res.gu]at hr1 hr2 hs
    have HR1:=Lib.hid hr1
    have HR2:=Lib.hid hr2
    have HSK:=Lib.hid hs
    clear hr1 hr2 hs
    go_upto_region 6 with(fail)
    refine zf [17,18,19,20,21,22,23,24,25,26] ?_
    refine dv0 ?_
    refine dv0 ?_
    refine dv2 0 1 ?_
    apply zb
    ·intro g w hb u;replace hL:=hL.grow hb;have d2:=yv u 2;clear u;simp only[za,fLa,fLb,sTa,sTb];simp only[d2]
     refine zo HR1.out hL rfl rfl ?_
     exact cY
    simp only[apN,apC]
    refine dv0 ?_
    refine dv0 ?_
    refine dv2 4 5 ?_
    apply zb
    ·intro g w hb u;replace hL:=hL.grow hb;have d6:=yv u 6;clear u;simp only[za,fLa,fLb,sTa,sTb];simp only[d6]
     refine zo HR2.out hL rfl rfl ?_
     exact cY
    simp only[apN,apC]
    apply zb
    ·intro g w hb u;replace hL:=hL.grow hb;have d3:=yv u 3;have d7:=yv u 7;clear u;simp only[za,fLa,fLb,sTa,sTb];simp only[d3,d7]
     go_wp2_with (go_at_call 112;refine(HSK.out _ hL.below).mono ?_;rintro e w3 ⟨rfl,hb3⟩;dsimp only)
     exact⟨rfl,_,rfl,hb3,rfl⟩
    simp only[apN,apC]
    refine dv1 8 ?_
    refine dnd hL ?_
    clear hL;intro w2 hL;simp only[zV,sTa,sTb]
    cases sm with
    | true=>
     have HE:=Lib.hid (HQK.out _ HSM.out)
     go_wp2
     go_roundw
     case rel=>
      refine⟨k+1,by omega,by go_num,fun j hj=>?_,hL⟩
      rcases Nat.lt_or_ge j k with h|h
      ·exact HQ.out j h
      ·obtain rfl:j=k:=by omega
       exact HE.out
     case measure=>simp[intOf];omega
    | false=>
     have HA:=Lib.hid (qY (q:=fun k=>!yW (ds.getD k zy) (es.getD k zy)) hlt (HQK.out _ HSM.out))
     go_wp2
     refine rt1 ?_
     exact⟨by rw[HEQ.out,HA.out];rfl,hL.below⟩
   ·obtain rfl:k=ds.length:=by omega
    have HA:=Lib.hid (jx HQ.out)
    clear hlt
    go_wp2
    refine rt1 ?_
    exact⟨by rw[HEQ.out,HA.out];rfl,hL.below⟩
 ·have h0:((ds.length:Int) != (es.length:Int))=true:=by simpa using hlen
  have HEQ:=Lib.hid (show jS ds es=false from ZC (by omega))
  clear hlen ha hb hal hbl hai hbi hpa hpb hca hcb
  have hL:=Loc.start w
  go_enter Tryz.func65,Tryz.ntmps65
  go_wp2
  refine rt1 ?_
  exact⟨by rw[HEQ.out];rfl,hL.below⟩
theorem X9 (x y:Pv) (d e:Pd) (w:World) (hx:zN w x d) (hy:zN w y e):
  Calls Tryz.prog 29 #[x.v,y.v] w fun q w'=>q=.returned (.bool (Zu d e))∧Below w.heap.size w w':=by
 have HV:=Lib.hid (fun w' (hb:Below w.heap.size w w')=>Uj x.vars y.vars d.vars e.vars w' (hx.vars.grow hb) (hy.vars.grow hb))
 have HPQ:=Lib.hid (show Zu d e=(d.none==e.none&&jS d.vars e.vars&&ZV d.fields e.fields) from rfl)
 obtain⟨rx,hrx,hrx2⟩:=hx.fields.ex
 obtain⟨ry,hry,hry2⟩:=hy.fields.ex
 have hnx:=hx.fields.n
 have hny:=hy.fields.n
 have hmx:=hx.fields.m
 have hmy:=hy.fields.m
 rw[hnx]at hrx hrx2
 rw[hny]at hry hry2
 have HE:=Lib.hid (fun k (hk:k<d.fields.length) (hk2:k<e.fields.length) w' (hb:Below w.heap.size w w')=>Uj (rx k) (ry k) (d.fields.getD k []) (e.fields.getD k []) w' ((hrx2 k hk).grow hb) ((hry2 k hk2).grow hb))
 obtain⟨bx,ox,hpx,hcx⟩:=(QG hrx).ex
 obtain⟨by',oy,hpy,hcy⟩:=(QG hry).ex
 have hxe:=hx.e
 have hye:=hy.e
 obtain⟨xn,⟨xp,xvn,xc⟩,⟨xfp,xfn,xfc⟩⟩:=x
 obtain⟨yn,⟨yp,yvn,yc⟩,⟨yfp,yfn,yfc⟩⟩:=y
 dsimp only[Sl.v]at hnx hny hpx hcx hpy hcy hxe hye hmx hmy HV
 subst hxe hye hnx hny
 have HPX:=Lib.hid hpx
 have HPY:=Lib.hid hpy
 have HCX:=Lib.hid hcx
 have HCY:=Lib.hid hcy
 clear hx hy hrx hrx2 hry hry2 hpx hcx hpy hcy
 generalize d.none=dn at HPQ
 generalize e.none=en at HPQ
 generalize jS d.vars e.vars=sv at HV HPQ
 generalize Zu d e=res at HPQ ⊢
 by_cases hg:(dn==en&&sv&&d.fields.length==e.fields.length)=true
 ·obtain⟨⟨rfl,rfl⟩,hlen⟩:(dn=en∧sv=true)∧d.fields.length=e.fields.length:=by simpa using hg
  have HEQ:=Lib.hid (show res=!j7 (fun k=>!jS (d.fields.getD k []) (e.fields.getD k [])) d.fields.length by rw[HPQ.out];unfold ZV;rw[← hlen,Xz];simp)
  have HLE:=Lib.hid hlen
  have hni:((d.fields.length:Int) != (e.fields.length:Int))=false:=by simp[hlen]
  have hdd:(dn != dn)=false:=by simp
  clear hg hlen HPQ
  have hL:=Loc.start w
  go_enter Tryz.func29,Tryz.ntmps29
  go_step
  go_step
  go_step
  ((with_reducible refine lbx hL ?_);clear hL;intro b2 w1 hL)
  ((with_reducible refine lbx hL ?_);clear hL;intro b3 w1 hL)
  go_wp2_with (first|(with_reducible refine lld hL ?_)|(go_at_call 65;refine(HV.out _ hL.below).mono ?_;rintro e w1 ⟨rfl,hb⟩;replace hL:=hL.grow hb;clear hb;dsimp only))
  go_loopw [5] (fun c wr=>∃ k:Nat,k≤d.fields.length∧c=.int .i64 k∧(∀ j,j<k→(!jS (d.fields.getD j []) (e.fields.getD j []))=false)∧Loc w wr [(b3,54,[_,.slice yp yvn yc,.slice yfp e.fields.length yfc]),(b2,54,[_,.slice xp xvn xc,.slice xfp d.fields.length xfc])] []) (fun c _=>d.fields.length - (intOf c).toNat)
  case atStart=>exact⟨0,Nat.zero_le _,rfl,fun j hj=>absurd hj (by omega),hL⟩
  case round=>
   clear hL
   obtain⟨k,hk,rfl,hq,hL⟩:=hrel
   have HQ:=Lib.hid hq
   clear hq
   by_cases hlt:k<d.fields.length
   ·have hlt2:k<e.fields.length:=by rw[← HLE.out];exact hlt
    obtain rfl:=HPX.out (by omega)
    obtain rfl:=HPY.out (by omega)
    clear HPX HPY
    have hr1:=HCX.out k hlt
    have hr2:=HCY.out k hlt2
    rw[Nat.mul_one]at hr1 hr2
    have hs:=HE.out k hlt hlt2
    have HQK:=Lib.hid (fun v (h:jS (d.fields.getD k []) (e.fields.getD k [])=v)=>(show (!jS (d.fields.getD k []) (e.fields.getD k []))=!v by rw[h]))
    generalize hsm:jS (d.fields.getD k []) (e.fields.getD k [])=sm at hs
    have HSM:=Lib.hid hsm
    clear hsm
    generalize rx k=s at hr1 hs
    generalize ry k=t at hr2 hs
    obtain⟨sp,sc,scap⟩:=s
    obtain⟨tp,tc,tcap⟩:=t
    dsimp only[Sl.v]at hr1 hr2 hs
    have HR1:=Lib.hid hr1
    have HR2:=Lib.hid hr2
    have HSK:=Lib.hid hs
    clear hr1 hr2 hs
    go_upto_region 6 with(first|(with_reducible refine lld hL ?_))
    refine zf [35,36,37,38,39,40,41,42,43,44,45,46] ?_
    refine dv0 ?_
    refine dv1 0 ?_
    refine dv0 ?_
    refine dv2 1 2 ?_
    apply zb
    ·intro g w hb u;replace hL:=hL.grow hb;have d3:=yv u 3;clear u;simp only[za,fLa,fLb,sTa,sTb];simp only[d3]
     refine zo HR1.out hL rfl rfl ?_
     exact cY
    simp only[apN,apC]
    refine dv0 ?_
    refine dv1 5 ?_
    refine dv0 ?_
    refine dv2 6 7 ?_
    apply zb
    ·intro g w hb u;replace hL:=hL.grow hb;have d8:=yv u 8;clear u;simp only[za,fLa,fLb,sTa,sTb];simp only[d8]
     refine zo HR2.out hL rfl rfl ?_
     exact cY
    simp only[apN,apC]
    apply zb
    ·intro g w hb u;replace hL:=hL.grow hb;have d4:=yv u 4;have d9:=yv u 9;clear u;simp only[za,fLa,fLb,sTa,sTb];simp only[d4,d9]
     go_wp2_with (go_at_call 65;refine(HSK.out _ hL.below).mono ?_;rintro e w3 ⟨rfl,hb3⟩;dsimp only)
     exact⟨rfl,_,rfl,hb3,rfl⟩
    simp only[apN,apC]
    refine dv1 10 ?_
    refine dnd hL ?_
    clear hL;intro w2 hL;simp only[zV,sTa,sTb]
    cases sm with
    | true=>
     have HE2:=Lib.hid (HQK.out _ HSM.out)
     go_wp2
     go_roundw
     case rel=>
      refine⟨k+1,by omega,by go_num,fun j hj=>?_,hL⟩
      rcases Nat.lt_or_ge j k with h|h
      ·exact HQ.out j h
      ·obtain rfl:j=k:=by omega
       exact HE2.out
     case measure=>simp[intOf];omega
    | false=>
     have HA:=Lib.hid (qY (q:=fun k=>!jS (d.fields.getD k []) (e.fields.getD k [])) hlt (HQK.out _ HSM.out))
     go_wp2
     refine rt1 ?_
     exact⟨by rw[HEQ.out,HA.out];rfl,hL.below⟩
   ·obtain rfl:k=d.fields.length:=by omega
    have HA:=Lib.hid (jx HQ.out)
    clear hlt
    go_wp2_with (first|(with_reducible refine lld hL ?_))
    refine rt1 ?_
    exact⟨by rw[HEQ.out,HA.out];rfl,hL.below⟩
 ·have HEQ:=Lib.hid (show res=false by
   rw[HPQ.out]
   cases h1:dn==en with
   | false=>rfl
   | true=>
    cases h2:sv with
    | false=>rfl
    | true=>
     rw[h1,h2]at hg
     have:¬ d.fields.length=e.fields.length:=by simpa using hg
     exact ZC this)
  have hgi:(!(dn==en) || !sv || ((d.fields.length:Int) != (e.fields.length:Int)))=true:=by
   cases h1:dn==en with
   | false=>rfl
   | true=>
    cases h2:sv with
    | false=>rfl
    | true=>
     rw[h1,h2]at hg
     have:¬ d.fields.length=e.fields.length:=by simpa using hg
     have h3:((d.fields.length:Int) != (e.fields.length:Int))=true:=by rw[bne_iff_ne];omega
     rw[h3];rfl
  have HGI:=Lib.hid hgi
  clear hg HPQ hgi
  have hL:=Loc.start w
  go_enter Tryz.func29,Tryz.ntmps29
  go_step
  go_step
  go_step
  ((with_reducible refine lbx hL ?_);clear hL;intro b2 w1 hL)
  ((with_reducible refine lbx hL ?_);clear hL;intro b3 w1 hL)
  go_upto_region 1 with(fail)
  refine zJ [6,7,8,9,10,11,12,13,14,15,16,17,18,19,20,21,22,23,24,25,26,27] ?_
  refine dv0 ?_
  refine dv1 0 ?_
  refine dv0 ?_
  refine dv1 2 ?_
  refine dv2 1 3 ?_
  refine dv1 4 ?_
  refine dg0 5 ?_
  refine dg1 5 6 ?_
  refine dg0 5 ?_
  refine dg1 5 8 ?_
  refine' zG (j:=5) rfl rfl rfl (by decide) (by simp) ?_ ?_;rotate_left
  ·intro hcs;simp only[Bool.and_eq_true,jp,jq]at hcs;intro g w hb u;replace hL:=hL.grow hb;have d7:=yv u 7;simp only[hcs,beq_self_eq_true,Bool.and_self,Bool.true_and,Bool.and_true,zr]at d7;have d9:=yv u 9;simp only[hcs,beq_self_eq_true,Bool.and_self,Bool.true_and,Bool.and_true,zr]at d9;clear u;simp only[za,fLa,fLb,sTa,sTb];simp only[d7,d9]
   go_wp2_with (go_at_call 65;refine(HV.out _ hL.below).mono ?_;rintro e w3 ⟨rfl,hb3⟩;dsimp only)
   exact⟨rfl,_,rfl,hb3,rfl⟩
  simp only[apN,apC]
  refine dg1 5 10 ?_
  refine dpo 5 11 ?_
  refine dv1 12 ?_
  refine dg0 13 ?_
  refine dg1 13 14 ?_
  refine dg1 13 15 ?_
  refine dg0 13 ?_
  refine dg1 13 17 ?_
  refine dg1 13 18 ?_
  refine dg2 13 16 19 ?_
  refine dpo 13 20 ?_
  refine dns hL ?_
  clear hL;intro w2 hL;simp only[zV,sTa,sTb]
  simp only[HGI.out]
  go_wp2
  refine rt1 ?_
  exact⟨by rw[HEQ.out];rfl,hL.below⟩
end Go.Proofs.YtplcndmdkabmeaaGreatDoor
