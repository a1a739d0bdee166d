/- The walk over the solver's round. Conditions: right pictures, one for each place, in the caller's own memory. -/
import Derived.Test.YtplcndmdkabmeaaGreatDoorSolE
set_option linter.unusedSimpArgs false
set_option linter.unusedVariables false
set_option maxRecDepth 100000
set_option maxHeartbeats 4000000
namespace Go.Proofs.YtplcndmdkabmeaaGreatDoor
open Go.RowKit
theorem zaR.fits {p:Pg}{is:Nat→Ins}{x:EdX}{W:World}(hp:zl p is=0) (h:zaR p is x W):(0≤x.d.1∧x.d.1≤p.n)∧qd p is x.d.2=0:=by
 obtain⟨d,hr,hm⟩:=h.of
 unfold Qg at hm
 by_cases hn:d.none=true
 ·rw[if_pos hn]at hm;cases hm
 ·rw[if_neg hn]at hm
  obtain⟨h1,h2⟩:=zaN hp (jh.of hr (by simpa using hn)) h.i _ hm
  exact⟨h1,h2.right⟩
theorem zcI {p:Pg}{is:Nat→Ins}(hp:zl p is=0) {d e:Pd}(h:qd p is d=0) (h' : qd p is e=0):yE d∧yE e∧(d.none=false→e.none=false→YO d e):=by
 have hs:=(zx hp).1
 have few:∀ d:Pd,qd p is d=0→yE d:=fun d h=>by
  cases hn:d.none with
  | true=>rw[qk.none h hn];exact yE.none
  | false=>exact yE.of (qk.of h hp hn) hs
 exact⟨few d h,few e h',fun h1 h2=>YO.of (qk.of h hp h1) (qk.of h' hp h2)⟩
theorem Loc.also7 {w0 w:World}{L:List zj}{D:List zw}(h:Loc w0 w L D) {b:Nat}{T:TypeId}{cs:List Value}(hb:w.heap[b]? = some (.cells cs.toArray T (0,0))) (h0:w0.heap.size≤b) (hT:∀ e∈L,e.2.1≠T):Loc w0 w L (ja b T cs::D):=by
 refine⟨h.below,h.nodup,h.ids,h.cells,fun S hS=>?_⟩
 rcases List.mem_cons.1 hS with rfl|hS
 ·refine⟨fun c=>c=b,fun c hc=>⟨⟨by rw[hc];exact zL hb,by rw[hc];exact h0⟩,fun e he hne=>?_⟩,fun w' hw'=>(hw' b rfl).trans hb⟩
  have h1:=h.cells e he
  rw[hne,hc,hb]at h1
  simp only[Option.some.injEq,Obj.cells.injEq]at h1
  exact hT e he h1.2.1.symm
 ·exact h.data S hS
def Km (B:Nat) (W:World):zw:=fun w=>∀ b,B≤b→b<W.heap.size→w.heap[b]? = W.heap[b]?
theorem Loc.kept {w0 w:World}{L:List zj}{D:List zw}(h:Loc w0 w L D) {B:Nat}(h0:w0.heap.size≤B) (hL:∀ e∈L,e.1<B):Loc w0 w L (Km B w::D):=by
 refine⟨h.below,h.nodup,h.ids,h.cells,fun S hS=>?_⟩
 rcases List.mem_cons.1 hS with rfl|hS
 ·exact⟨fun c=>B≤c∧c<w.heap.size,fun c hc=>⟨⟨hc.2,Nat.le_trans h0 hc.1⟩,fun e he hne=>by have:=hL e he;omega⟩,fun w' hw' b h1 h2=>hw' b ⟨h1,h2⟩⟩
 ·exact h.data S hS
theorem Km.keep {B:Nat}{W w:World}(h:Km B W w) (hB:B<W.heap.size):Ji B W w:=by
 refine⟨?_,h⟩
 have h1:=h (W.heap.size - 1) (by omega) (by omega)
 have h2:w.heap[W.heap.size - 1]? = some (W.heap[W.heap.size - 1]'(by omega)):=by rw[h1];exact Array.getElem?_eq_getElem _
 have:=zL h2
 omega
theorem J7 {P:Program}{n:Nat}{r:Option Nat}{a:Act}{w:World}{Q:Exit→Act→World→Prop}{id:Nat}{ops:Array Oper}(h:J4 P ops Q a w) (hd:ops.toList.all (fun o=>!Zn o)=true:=by decide) (hq:¬ LetsOut Q:=by(rintro⟨_,_,h⟩;exact h)):(Code.region id ops true).wpIn (inR r) n P Q a w:=zb3 hd hq h
theorem YZ {P:Program}{n:Nat}{r:Option Nat}{a:Act}{w:World}{Q:Exit→Act→World→Prop}{id:Nat}{l:List Oper}(h:wpList P l.toArray Q l a w) (hd:l.all (fun o=>!Zn o)=true:=by decide) (hq:¬ LetsOut Q:=by(rintro⟨_,_,h⟩;exact h)):(Code.region id l.toArray false).wpIn (inR r) n P Q a w:=jJ hd hq h
theorem ze4:∀ args w,(callFunc 61 args).run Tryz.prog w=.ok (.enter 61 args) w:=fun args w=>by kernel_rfl
theorem Jc {p:Pg}{is:Nat→Ins}(hp:zl p is=0) {d:Pd}(h:qd p is d=0):d.vars.length+d.fields.length≤9223372036854775807:=by
 cases hn:d.none with
 | true=>rw[qk.none h hn];decide
 | false=>
  have h1:=qk.of h hp hn
  have hs:=(zx hp).1
  have h2:=h1.vars
  have h3:=hs.v2
  have h4:=h1.fields
  have h5:=hs.n1
  omega
def JM (wq:World) (d:Pd):Value→World→Prop:=fun v w=>∃ r:Pv,v=.agg #[.bool r.none,.slice r.vars.p r.vars.n r.vars.cap,.slice r.fields.p r.fields.n r.fields.cap]∧Loc wq w [] [fun w=>zN w r d]
theorem JM.stable {wq:World}{d:Pd}:jC (JM wq d):=by
 rintro v w w' hb ⟨r,h1,h2⟩;exact⟨r,h1,h2.grow hb⟩
theorem YE:yg Tryz.prog 142:=⟨by kernel_rfl,by kernel_rfl⟩
theorem zf4:Qb Tryz.prog 4 [.bool false]:=⟨by kernel_rfl⟩
theorem zcJ (p:Pg) (is:Nat→Ins) (hp:zl p is=0) (w0:World) (hc:qc w0 p is) (bs:Nat) (s0:Sl) (n:Nat) (l:List Pd) (ho:qI p is l) (w:World) (hM:JD w0 p bs s0 [] l w):
  Calls Tryz.prog 111 #[.pointer (some ⟨bs,0,none⟩),.int .i64 n] w fun e w'=>e=.returned (.bool (qm is (jf (decide (3<n))) Prod.fst p.n (l,false)).2)∧JD w0 p bs s0 [] (qm is (jf (decide (3<n))) Prod.fst p.n (l,false)).1 w'∧qI p is (qm is (jf (decide (3<n))) Prod.fst p.n (l,false)).1:=by
 refine(callsIn_wide (n:=2)).1 ?_
 refine callsIn_of_wp_marks Tryz.func111 rfl trivial ?_ rfl
 simp only[Tryz.ntmps111,List.size_toArray,List.length_cons,List.length_nil,Nat.reduceAdd,Nat.reduceSub,Array.replicate_succ,Array.replicate_zero,List.push_toArray,List.append_toArray,List.nil_append,List.cons_append]
 obtain⟨xs,R,hl,hR,hL⟩:=hM
 rw[List.append_nil]at hL
 obtain⟨sp,sn,sc⟩:=s0
 have hflat:=hR.flatlen ZE (by decide)
 obtain⟨bp,cr0,hsp,rfl,-,-⟩:=hR.block (by have:=ho.len;omega)
 dsimp only at hsp hflat
 subst hsp
 clear hflat
 show Code.wpIn (inR none) _ _ _ _ _ _
 iterate 2 gi_step
 refine jJ ?hd0 ?hq0 ?hw0
 case hd0=>decide
 case hq0=>rintro⟨_,_,⟨v,hv⟩,_⟩
 go_wp2_with (first|((with_reducible refine lbx (T:=142) hL ?_);clear hL;intro b2 w1 hL)|((with_reducible refine lbx (T:=3) hL ?_);clear hL;intro b3 w1 hL))
 gi_step
 refine jJ ?hd1 ?hq1 ?hw1
 case hd1=>decide
 case hq1=>rintro⟨_,_,⟨v,hv⟩,_⟩
 go_wp2_with (first|((with_reducible refine lal hL ?_ (hz:=zf4));clear hL;intro b5 w1 hL)|(with_reducible refine zd hL ?_;clear hL;intro w1 hL))
 iterate 2 gi_step
 refine jJ ?hd2 ?hq2 ?hw2
 case hd2=>decide
 case hq2=>rintro⟨_,_,⟨v,hv⟩,_⟩
 go_wp2_with (first|(refine ldO (ze.cell YE rfl) hL ?_))
 gi_step
 obtain⟨wb,hwb⟩:∃ x,x=w1:=⟨_,rfl⟩
 subst hwb
 have hJ0:JD w0 p bs ⟨some ⟨bp,0,none⟩,sn,sc⟩ [(b5,4,[.bool false]),(b3,3,[.int .i64 n]),(b2,142,[.pointer (some ⟨bs,0,none⟩)])] l wb:=
  ⟨xs,[(bp,54,cr0)],hl,hR,hL.perm (by
   have hpm:=@List.perm_append_comm zj [(b5,4,[.bool false]),(b3,3,[.int .i64 n]),(b2,142,[.pointer (some ⟨bs,0,none⟩)])] [(bs,144,[.int .i64 p.vars,.int .i64 p.fields,.slice p.pc p.n p.cap,.slice (some ⟨bp,0,none⟩) sn sc]),(bp,54,cr0)]
   simp only[List.cons_append,List.nil_append]at hpm
   exact hpm.symm)⟩
 have hsz:=hL.size
 have hids:bs<wb.heap.size∧bp<wb.heap.size∧b2<wb.heap.size∧b3<wb.heap.size∧b5<wb.heap.size:=⟨zL (hL.cells (bs,_,_) cMm),zL (hL.cells (bp,_,_) cMm),zL (hL.cells (b2,_,_) cMm),zL (hL.cells (b3,_,_) cMm),zL (hL.cells (b5,_,_) cMm)⟩
 clear hL hR hl
 refine zaV (gf:=99) (fb:=#[.pointer (some ⟨bs,0,none⟩)]) (lb:=#[]) (σ:=List Pd × Bool) (encs:=EdX.encs) (Need:=fun s=>UN p is bs ⟨some ⟨bp,0,none⟩,sn,sc⟩ s.1) (G:=zdC p is Prod.fst) (next:=fun s x=>jf (decide (3<n)) x.i x.d s) (fin:=qm is (jf (decide (3<n))) Prod.fst p.n) rfl (fun args w=>by kernel_rfl) (fun _=>rfl)
  (zdD p is hp bs ⟨some ⟨bp,0,none⟩,sn,sc⟩ (jf (decide (3<n))) Prod.fst _ _)
  (fun s W=>JD w0 p bs ⟨some ⟨bp,0,none⟩,sn,sc⟩ [(b5,4,[.bool s.2]),(b3,3,[.int .i64 n]),(b2,142,[.pointer (some ⟨bs,0,none⟩)])] s.1 W∧qI p is s.1)
  (fun _=>False) ?hJ ?hJx ?hN ?hG (l,false) ⟨hJ0,ho⟩
  (fun x a' W=>∃ b7,w0.heap.size≤b7∧a'=⟨#[.pointer (some ⟨bs,0,none⟩),.int .i64 n,.pointer (some ⟨b2,0,none⟩),.pointer (some ⟨b3,0,none⟩),.bool false,.pointer (some ⟨b5,0,none⟩),.int .i64 x.i,.pointer (some ⟨b7,0,none⟩),undef,.pointer (some ⟨bs,0,none⟩),.func (.func 99) #[.pointer (some ⟨bs,0,none⟩)] #[],.int .i64 x.i,.agg #[.int .i64 x.e.go,.bool x.e.x.none,.slice x.e.x.vars.p x.e.x.vars.n x.e.x.vars.cap,.slice x.e.x.fields.p x.e.x.fields.n x.e.x.fields.cap],undef,undef,undef,undef,undef,undef,undef,undef,undef,undef,undef,undef,undef,undef,undef,undef,undef,undef,undef,undef,undef,undef,undef,undef,undef,undef,undef,undef,undef,undef,undef,undef,undef,undef,undef,undef,undef,undef,undef],[]⟩∧W.heap[b7]? = some (.cells #[.int .i64 x.e.go,.bool x.e.x.none,.slice x.e.x.vars.p x.e.x.vars.n x.e.x.vars.cap,.slice x.e.x.fields.p x.e.x.fields.n x.e.x.fields.cap] 75 (0,0)))
  ?hAx ?hassign ?hbody ?hdone ?hstop
 case hJ=>
  exact fun s=>⟨fun W W' hb h=>⟨h.1.grow hb,h.2⟩,fun W r r' hr h=>⟨h.1.turn (by omega) (fun ⟨_,_,_,hc⟩=>by rw[hr]at hc;cases hc),h.2⟩⟩
 case hJx=>exact⟨fun _ _ _ h=>h,fun _ _ _ _ h=>h⟩
 case hN=>exact fun s W h=>h.1.at' hc h.2
 case hG=>exact fun s x=>zdC.abides
 case hAx=>
  refine fun x a'=>⟨fun W W' hb ⟨b7,h0,h1,h2⟩=>⟨b7,h0,h1,by rw[hb.block _ (zL h2)];exact h2⟩,fun W r r' hr ⟨b7,h0,h1,h2⟩=>⟨b7,h0,h1,?_⟩⟩
  rw[World.putObj_heap_other (fun e=>by rw[e,hr]at h2;cases h2)]
  exact h2
 case hstop=>exact fun D W _ h=>h.elim
 case hassign=>
  rintro l' s ⟨i,⟨ego,⟨en,⟨ep,evn,ec⟩,⟨efp,efn,efc⟩⟩⟩,dk⟩ W K hs hx hK
  dsimp only[EdX.encs]
  simp only[List.zip_toArray,List.zip_cons_cons,List.zip_nil_left,List.zip_nil_right,List.foldl_toArray,List.foldl_cons,List.foldl_nil,List.setIfInBounds_toArray,List.set_cons_succ,List.set_cons_zero]
  dsimp only at hK ⊢
  have hL:=Loc.start W
  iterate 2 gi_step
  refine jJ ?hd3 ?hq3 ?hw3
  case hd3=>decide
  case hq3=>rintro⟨_,_,h⟩;exact h
  go_wp2
  refine jJ ?hd4 ?hq4 ?hw4
  case hd4=>decide
  case hq4=>rintro⟨_,_,h⟩;exact h
  go_wp2_with (first|(with_reducible first|(refine lal hL ?_;clear hL;intro bl w1 hL)|(refine zd hL ?_;clear hL;intro w1 hL)))
  have h7:W.heap.size≤bl:=hL.ids _ List.mem_cons_self
  have hws:w0.heap.size≤W.heap.size:=by obtain⟨_,_,_,_,hL2⟩:=hs.1;exact hL2.size
  exact hK _ _ hL.below ⟨bl,Nat.le_trans hws h7,rfl,hL.heap cIn⟩
 case hbody=>
  intro l' s x a' W hW hs hx hax
  replace hx:=hx.1
  obtain⟨hft,hrx⟩:=hx.fits hp
  have hgo:=hx.go
  have hpx:=hx.x
  clear hx
  obtain⟨i,⟨ego,⟨en,⟨ep,evn,ec⟩,⟨efp,efn,efc⟩⟩⟩,⟨dg,de⟩⟩:=x
  dsimp only at hft hrx hgo hpx
  subst hgo
  obtain⟨t,rfl⟩:∃ t:Nat,ego=t:=⟨ego.toNat,by omega⟩
  have htp:t≤p.n:=by omega
  clear hft
  obtain⟨b7,hb7,rfl,h7⟩:=hax
  obtain⟨⟨xs,R,hl,hR,hL⟩,hok⟩:=hs
  obtain⟨l,ch⟩:=s
  dsimp only at hok hl hR hL h7
  have hnn:=hR.flatlen ZE (by decide)
  have hlen:=hok.len
  have htn:t<sn:=by rw[hnn];omega
  obtain⟨bp',cr,hsp,rfl,htk,hcl⟩:=hR.block (by omega)
  obtain rfl:bp'=bp:=by simpa using hsp.symm
  have hel:=hR.elem ZE qU (k:=t) htn
  have hput:=fun g=>hR.put ZE qU (k:=t) htn g
  have hfit:=hR.fits
  have HSZ:=Lib.hid (show t*3+3≤cr.length by rw[hcl];omega)
  have HG1:=Lib.hid (show ze Tryz.prog 54 cr (t*3) (xs.getD t qU).v from ze.agg ZK hel rfl)
  have hpt:=hL.get (S:=y8 xs l) List.mem_cons_self t (by omega)
  obtain⟨hf1,hf2,hf3⟩:=zcI hp (hok.r t htp) hrx
  have hnx:jf (decide (3<n)) i ((t:Int),de) (l,ch)=if jv de (l.getD t zQ)=true then (l,ch) else (l.set t (yl (if (decide (3<n)&&decide ((t:Int)≤i))=true then jA else both) (l.getD t zQ) de),true):=rfl
  have hokn:=qI.next (s:=(l,ch)) (nb:=decide (3<n)) (i:=i) (x:=((t:Int),de)) hp hok hrx ⟨by omega,by show (t:Int)≤p.n;omega⟩
  rw[hnx]at hokn
  replace hL:=hL.also7 h7 hb7 (by intro e he;simp only[List.mem_cons,List.mem_append,List.not_mem_nil,or_false]at he;rcases he with rfl|rfl|rfl|rfl|rfl<;>(dsimp only;decide))
  replace hL:=hL.kept (B:=wb.heap.size) hsz (by intro e he;simp only[List.mem_cons,List.mem_append,List.not_mem_nil,or_false]at he;obtain⟨h1,h2,h3,h4,h5⟩:=hids;rcases he with rfl|rfl|rfl|rfl|rfl<;>assumption)
  have hin:=fun w' (hb:Below W.heap.size W w')=>zah ⟨en,⟨ep,evn,ec⟩,⟨efp,efn,efc⟩⟩ (xs.getD t qU) de (l.getD t zQ) w' (hpx.grow hb) (hpt.grow hb)
  have hbo:=fun (K:FuncId) (f:zq→zq→zq) (he:∀ args w,(callFunc K args).run Tryz.prog w=.ok (.enter K args) w) (hf:∀ (s t:zq) (w:World),Calls Tryz.prog K #[s.v,t.v] w fun e w'=>e=.returned (f s t).v∧Below w.heap.size w w') w' (hb:Below W.heap.size W w')=>zde K f he hf (xs.getD t qU) ⟨en,⟨ep,evn,ec⟩,⟨efp,efn,efc⟩⟩ (l.getD t zQ) de w' (hpt.grow hb) (hpx.grow hb) hf1 hf2 hf3
  have hset:=fun (w:World) (r:Pv) (d:Pd) (h1:zN w r d) (h2:y8 xs l w)=>h2.set hl (t:=t) h1
  clear hnn hsp htk hel hpt hpx hf1 hf2 hf3 hrx hcl h7 hc
  generalize hq1:xs.getD t qU=xt at HG1 hin hbo
  generalize jv de (l.getD t zQ)=ins at hin hnx hokn
  generalize l.getD t zQ=lt at hbo hnx hokn
  clear hq1
  obtain⟨xn,⟨xp,xvn,xc⟩,⟨xfp,xfn,xfc⟩⟩:=xt
  dsimp only[Pv.v]at HG1 hin hbo
  have HIN:=Lib.hid hin
  have HBO:=Lib.hid hbo
  have HSET:=Lib.hid hset
  have HNX:=Lib.hid hnx
  have HOKN:=Lib.hid hokn
  have HOK:=Lib.hid hok
  have HPUT:=Lib.hid hput
  have HR:=Lib.hid hR
  have HL:=Lib.hid hl
  have HLEN:=Lib.hid hlen
  have HFT:=Lib.hid hfit
  clear hin hbo hset hnx hokn hok hput hR hl hlen hfit hids hJ0 ho
  simp only[Nat.reduceSub]
  iterate 3 gi_step
  refine jJ ?hd5 ?hq5 ?hw5
  case hd5=>decide
  case hq5=>rintro⟨_,_,h⟩;exact h
  go_wp2
  iterate 2 gi_step
  refine jJ ?hd6 ?hq6 ?hw6
  case hd6=>decide
  case hq6=>rintro⟨_,_,h⟩;exact h
  by_cases h3:3<n
  ·have hg:decide ((3:Int)<(n:Int))=true:=decide_eq_true (by omega)
   by_cases hti:(t:Int)≤i
   ·have hg2:decide ((t:Int)≤(i:Int))=true:=decide_eq_true hti
    have HB:=Lib.hid (HBO.out 61 jA ze4 zda)
    have hnf:=HNX.out
    have hof:=HOKN.out
    rw[show (if (decide (3<n)&&decide ((t:Int)≤i))=true then jA else both)=jA by simp[h3,hti]]at hnf hof
    have HNF:=Lib.hid hnf
    have HOF:=Lib.hid hof
    generalize jA=f at HB HNF HOF
    clear hnf hof HNX HOKN HBO
    go_wp2_with (first|(with_reducible refine lld hL ?_)|(with_reducible refine ldD hL ?_))
    gi_step
    refine jJ ?hd7 ?hq7 ?hw7
    case hd7=>decide
    case hq7=>rintro⟨_,_,h⟩;exact h
    go_wp2
    clear hg hg2 hti h3
    iterate 2 gi_step
    simp only[List.cons_append,List.nil_append]at hL
    refine J7 ?_
    refine yq [21,22,23,24,25,26,27,28,29,30,31] ?_
    refine dv0 ?_
    refine dv1 0 ?_
    apply zb
    ·intro g w hb y;replace hL:=hL.grow hb;clear y;simp only[za,fLa,fLb,sTa,sTb]
     refine ldO (ze.cell YE rfl) hL ?_
     exact cY
    simp only[apN,apC]
    apply zb
    ·intro g w hb y;replace hL:=hL.grow hb;have d2:=yv y 2;clear y;simp only[za,fLa,fLb,sTa,sTb];simp only[d2]
     go_wp2
     exact cY
    simp only[apN,apC]
    refine dv1 3 ?_
    refine dv1 4 ?_
    refine dv0 ?_
    refine dv1 6 ?_
    refine dv2 5 7 ?_
    apply zb
    ·intro g w hb y;replace hL:=hL.grow hb;have d8:=yv y 8;clear y;simp only[za,fLa,fLb,sTa,sTb];simp only[d8]
     refine zR hL rfl rfl cIn HG1.out ?_
     exact cY
    simp only[apN,apC]
    apply zb
    ·intro g w hb y;replace hL:=hL.grow hb;have d1:=yv y 1;have d9:=yv y 9;clear y;simp only[za,fLa,fLb,sTa,sTb];simp only[d1,d9]
     go_wp2_with (go_at_call 100;refine(HIN.out _ hb).mono ?_;rintro e w3 ⟨rfl,hb3⟩;dsimp only)
     exact⟨rfl,_,rfl,hb3,rfl⟩
    simp only[apN,apC]
    refine Qw hL (by kernel_rfl) (by kernel_rfl) ?_
    intro g w2 hb hR;simp only[List.length_cons,List.length_nil,Nat.reduceAdd]at hR
    have e0:=yv hR 0
    have e1:=yv hR 1
    have e2:=yv hR 2
    have e3:=yv hR 3
    have e4:=yv hR 4
    have e5:=yv hR 5
    have e6:=yv hR 6
    have e7:=yv hR 7
    have e8:=yv hR 8
    have e9:=yv hR 9
    have e10:=yv hR 10
    clear hR;simp only[za,fLa,fLb,sTa,sTb]
    simp only[e0,e1,e2,e3,e4,e5,e6,e7,e8,e9,e10]
    clear e0 e1 e2 e3 e4 e5 e6 e7 e8 e9 e10
    replace hL:=hL.grow hb
    have hbW:=hb
    clear hb
    clear HIN
    cases ins with
    | true=>
     go_wp2
     iterate 2 gi_step
     simp only[Exit.then,Exit.inBlock,↓reduceIte]
     have hnf:=HNF.out
     rw[if_pos (by first|rfl|trivial)]at hnf
     refine⟨⟨?_,?_⟩,(hL.get (S:=Km wb.heap.size W) cMm).keep (by omega)⟩
     ·change JD w0 p bs _ [(b5,4,[.bool (jf (decide (3<n)) i ((t:Int),de) (l,ch)).2]),_,_] (jf (decide (3<n)) i ((t:Int),de) (l,ch)).1 w2
      rw[hnf]
      exact⟨xs,[(bp',54,cr)],HL.out,HR.out,hL.drop (List.Sublist.refl _) (fun S hS=>List.mem_cons_of_mem _ (List.mem_cons_of_mem _ hS))⟩
     ·change qI p is (jf (decide (3<n)) i ((t:Int),de) (l,ch)).1
      rw[hnf]
      exact HOK.out
    | false=>
     have hof:=HOF.out
     rw[if_neg (by decide)]at hof
     have HOF2:=Lib.hid hof
     have hrd:qd p is (yl f lt de)=0:=by
      have h1:=hof.r t htp
      rwa [qy _ _ _ _ _ (by rw[HLEN.out];omega),if_pos rfl]at h1
     have hbl:=Jc hp hrd
     have HB2:=Lib.hid (fun w' (hb:Below w2.heap.size w2 w')=>HB.out w' (hbW.trans (hb.mono hbW.size)))
     have hnf:=HNF.out
     rw[if_neg (by decide)]at hnf
     have HNF2:=Lib.hid hnf
     clear HB hof hrd hnf HNF hbW
     generalize hd3:yl f lt de=d3 at *
     clear hd3
     go_wp2
     iterate 5 gi_step
     obtain⟨wq,hwq⟩:∃ x,x=w2:=⟨_,rfl⟩
     subst hwq
     refine J7 ?_
     refine yq [32,33,34,35,36,37,38,39,40,41,42,43,44,45,46,47,48,49,50] ?_
     apply zb
     ·intro g w hb y;replace hL:=hL.grow hb;clear y;simp only[za,fLa,fLb,sTa,sTb]
      refine ldO (ze.cell YE rfl) hL ?_
      exact cY
     simp only[apN,apC]
     refine dv1 0 ?_
     refine dv1 1 ?_
     refine dv1 2 ?_
     refine dv0 ?_
     refine dv1 4 ?_
     apply zb
     ·intro g w hb y;replace hL:=hL.grow hb;clear y;simp only[za,fLa,fLb,sTa,sTb]
      refine ldO (ze.cell YE rfl) hL ?_
      exact cY
     simp only[apN,apC]
     refine dv1 6 ?_
     refine dv1 7 ?_
     refine dv1 8 ?_
     refine dv0 ?_
     refine dv1 10 ?_
     refine dv2 9 11 ?_
     apply zb
     ·intro g w hb y;replace hL:=hL.grow hb;have d12:=yv y 12;clear y;simp only[za,fLa,fLb,sTa,sTb];simp only[d12]
      refine zR hL rfl rfl cIn HG1.out ?_
      exact cY
     simp only[apN,apC]
     refine dv0 ?_
     refine dv1 14 ?_
     refine dv0 ?_
     refine zh (JM wq d3) JM.stable ?_ ?_
     ·intro g w hb y;replace hL:=hL.grow hb;have d13:=yv y 13;have d15:=yv y 15;have d16:=yv y 16;clear y;simp only[za,fLa,fLb,sTa,sTb];simp only[d13,d15,d16]
      go_wp2_with (go_at_call 59;refine(HB2.out _ hb).mono ?_;rintro e w4 ⟨r,rfl,hG⟩;dsimp only)
      exact⟨rfl,_,rfl,hG.below,r,rfl,Loc.since hb ((Loc.start _).gotP hG hbl)⟩
     simp only[apN,apC]
     refine dv2 3 5 ?_
     refine Qw hL (by kernel_rfl) (by kernel_rfl) ?_
     intro g w3 hb hR;simp only[List.length_cons,List.length_nil,Nat.reduceAdd]at hR
     have e0:=yv hR 0
     have e1:=yv hR 1
     have e2:=yv hR 2
     have e3:=yv hR 3
     have e4:=yv hR 4
     have e5:=yv hR 5
     have e6:=yv hR 6
     have e7:=yv hR 7
     have e8:=yv hR 8
     have e9:=yv hR 9
     have e10:=yv hR 10
     have e11:=yv hR 11
     have e12:=yv hR 12
     have e13:=yv hR 13
     have e14:=yv hR 14
     have e15:=yv hR 15
     have e16:=yv hR 16
     have e17:(JM wq d3) (g 49) w3:=yr hR 17
     obtain⟨⟨rn,⟨rp,rvn,rvc⟩,⟨rfp,rfn,rfc⟩⟩,e17,hG⟩:=e17
     have e18:=yv hR 18
     clear hR;simp only[za,fLa,fLb,sTa,sTb]
     simp only[e0,e1,e2,e3,e4,e5,e6,e7,e8,e9,e10,e11,e12,e13,e14,e15,e16,e17,e18]
     clear e0 e1 e2 e3 e4 e5 e6 e7 e8 e9 e10 e11 e12 e13 e14 e15 e16 e17 e18
     replace hL:=hL.gave hG
     clear hb
     simp only[List.append_nil,List.cons_append,List.nil_append]at hL
     go_wp2_with (first|(refine qa (b:=bp') (off:=t*3) (vs:=Pv.cells ⟨rn,⟨rp,rvn,rvc⟩,⟨rfp,rfn,rfc⟩⟩) (cs':=zk cr (t*3) (Pv.cells ⟨rn,⟨rp,rvn,rvc⟩,⟨rfp,rfn,rfc⟩⟩)) hL rfl rfl cIn rfl ZK.sz rfl HSZ.out rfl ?_;clear hL;intro w' hL))
     refine YZ ?_
     go_wp2_with (first|(with_reducible refine zd hL ?_;clear hL;intro w1 hL))
     (try simp only[Exit.then,Exit.inBlock,↓reduceIte])
     refine⟨⟨?_,?_⟩,(hL.get (S:=Km wb.heap.size W) cMm).keep (by omega)⟩
     ·change JD w0 p bs _ [(b5,4,[.bool (jf (decide (3<n)) i ((t:Int),de) (l,ch)).2]),_,_] (jf (decide (3<n)) i ((t:Int),de) (l,ch)).1 _
      rw[HNF2.out]
      refine⟨xs.set t ⟨rn,⟨rp,rvn,rvc⟩,⟨rfp,rfn,rfc⟩⟩,[(bp',54,zk cr (t*3) (Pv.cells ⟨rn,⟨rp,rvn,rvc⟩,⟨rfp,rfn,rfc⟩⟩))],by simp only[List.length_set];exact HL.out,HPUT.out _,?_⟩
      refine(hL.drop (D':=[fun w=>zN w ⟨rn,⟨rp,rvn,rvc⟩,⟨rfp,rfn,rfc⟩⟩ d3,y8 xs l]) (List.Sublist.refl _) (fun S hS=>?_)).both (fun w h1 h2=>HSET.out w _ d3 h1 h2)
      simp only[List.mem_cons,List.not_mem_nil,or_false]at hS ⊢
      rcases hS with rfl|rfl<;>simp
     ·change qI p is (jf (decide (3<n)) i ((t:Int),de) (l,ch)).1
      rw[HNF2.out]
      exact HOF2.out
   ·have hg2:decide ((t:Int)≤(i:Int))=false:=decide_eq_false hti
    have HB:=Lib.hid (HBO.out 60 both KU Js)
    have hnf:=HNX.out
    have hof:=HOKN.out
    rw[show (if (decide (3<n)&&decide ((t:Int)≤i))=true then jA else both)=both by simp[hti]]at hnf hof
    have HNF:=Lib.hid hnf
    have HOF:=Lib.hid hof
    generalize both=f at HB HNF HOF
    clear hnf hof HNX HOKN HBO
    go_wp2_with (first|(with_reducible refine lld hL ?_)|(with_reducible refine ldD hL ?_))
    iterate 6 gi_step
    clear hg hg2 hti h3
    simp only[List.cons_append,List.nil_append]at hL
    refine J7 ?_
    refine yq [21,22,23,24,25,26,27,28,29,30,31] ?_
    refine dv0 ?_
    refine dv1 0 ?_
    apply zb
    ·intro g w hb y;replace hL:=hL.grow hb;clear y;simp only[za,fLa,fLb,sTa,sTb]
     refine ldO (ze.cell YE rfl) hL ?_
     exact cY
    simp only[apN,apC]
    apply zb
    ·intro g w hb y;replace hL:=hL.grow hb;have d2:=yv y 2;clear y;simp only[za,fLa,fLb,sTa,sTb];simp only[d2]
     go_wp2
     exact cY
    simp only[apN,apC]
    refine dv1 3 ?_
    refine dv1 4 ?_
    refine dv0 ?_
    refine dv1 6 ?_
    refine dv2 5 7 ?_
    apply zb
    ·intro g w hb y;replace hL:=hL.grow hb;have d8:=yv y 8;clear y;simp only[za,fLa,fLb,sTa,sTb];simp only[d8]
     refine zR hL rfl rfl cIn HG1.out ?_
     exact cY
    simp only[apN,apC]
    apply zb
    ·intro g w hb y;replace hL:=hL.grow hb;have d1:=yv y 1;have d9:=yv y 9;clear y;simp only[za,fLa,fLb,sTa,sTb];simp only[d1,d9]
     go_wp2_with (go_at_call 100;refine(HIN.out _ hb).mono ?_;rintro e w3 ⟨rfl,hb3⟩;dsimp only)
     exact⟨rfl,_,rfl,hb3,rfl⟩
    simp only[apN,apC]
    refine Qw hL (by kernel_rfl) (by kernel_rfl) ?_
    intro g w2 hb hR;simp only[List.length_cons,List.length_nil,Nat.reduceAdd]at hR
    have e0:=yv hR 0
    have e1:=yv hR 1
    have e2:=yv hR 2
    have e3:=yv hR 3
    have e4:=yv hR 4
    have e5:=yv hR 5
    have e6:=yv hR 6
    have e7:=yv hR 7
    have e8:=yv hR 8
    have e9:=yv hR 9
    have e10:=yv hR 10
    clear hR;simp only[za,fLa,fLb,sTa,sTb]
    simp only[e0,e1,e2,e3,e4,e5,e6,e7,e8,e9,e10]
    clear e0 e1 e2 e3 e4 e5 e6 e7 e8 e9 e10
    replace hL:=hL.grow hb
    have hbW:=hb
    clear hb
    clear HIN
    cases ins with
    | true=>
     go_wp2
     iterate 2 gi_step
     simp only[Exit.then,Exit.inBlock,↓reduceIte]
     have hnf:=HNF.out
     rw[if_pos (by first|rfl|trivial)]at hnf
     refine⟨⟨?_,?_⟩,(hL.get (S:=Km wb.heap.size W) cMm).keep (by omega)⟩
     ·change JD w0 p bs _ [(b5,4,[.bool (jf (decide (3<n)) i ((t:Int),de) (l,ch)).2]),_,_] (jf (decide (3<n)) i ((t:Int),de) (l,ch)).1 w2
      rw[hnf]
      exact⟨xs,[(bp',54,cr)],HL.out,HR.out,hL.drop (List.Sublist.refl _) (fun S hS=>List.mem_cons_of_mem _ (List.mem_cons_of_mem _ hS))⟩
     ·change qI p is (jf (decide (3<n)) i ((t:Int),de) (l,ch)).1
      rw[hnf]
      exact HOK.out
    | false=>
     have hof:=HOF.out
     rw[if_neg (by decide)]at hof
     have HOF2:=Lib.hid hof
     have hrd:qd p is (yl f lt de)=0:=by
      have h1:=hof.r t htp
      rwa [qy _ _ _ _ _ (by rw[HLEN.out];omega),if_pos rfl]at h1
     have hbl:=Jc hp hrd
     have HB2:=Lib.hid (fun w' (hb:Below w2.heap.size w2 w')=>HB.out w' (hbW.trans (hb.mono hbW.size)))
     have hnf:=HNF.out
     rw[if_neg (by decide)]at hnf
     have HNF2:=Lib.hid hnf
     clear HB hof hrd hnf HNF hbW
     generalize hd3:yl f lt de=d3 at *
     clear hd3
     go_wp2
     iterate 5 gi_step
     obtain⟨wq,hwq⟩:∃ x,x=w2:=⟨_,rfl⟩
     subst hwq
     refine J7 ?_
     refine yq [32,33,34,35,36,37,38,39,40,41,42,43,44,45,46,47,48,49,50] ?_
     apply zb
     ·intro g w hb y;replace hL:=hL.grow hb;clear y;simp only[za,fLa,fLb,sTa,sTb]
      refine ldO (ze.cell YE rfl) hL ?_
      exact cY
     simp only[apN,apC]
     refine dv1 0 ?_
     refine dv1 1 ?_
     refine dv1 2 ?_
     refine dv0 ?_
     refine dv1 4 ?_
     apply zb
     ·intro g w hb y;replace hL:=hL.grow hb;clear y;simp only[za,fLa,fLb,sTa,sTb]
      refine ldO (ze.cell YE rfl) hL ?_
      exact cY
     simp only[apN,apC]
     refine dv1 6 ?_
     refine dv1 7 ?_
     refine dv1 8 ?_
     refine dv0 ?_
     refine dv1 10 ?_
     refine dv2 9 11 ?_
     apply zb
     ·intro g w hb y;replace hL:=hL.grow hb;have d12:=yv y 12;clear y;simp only[za,fLa,fLb,sTa,sTb];simp only[d12]
      refine zR hL rfl rfl cIn HG1.out ?_
      exact cY
     simp only[apN,apC]
     refine dv0 ?_
     refine dv1 14 ?_
     refine dv0 ?_
     refine zh (JM wq d3) JM.stable ?_ ?_
     ·intro g w hb y;replace hL:=hL.grow hb;have d13:=yv y 13;have d15:=yv y 15;have d16:=yv y 16;clear y;simp only[za,fLa,fLb,sTa,sTb];simp only[d13,d15,d16]
      go_wp2_with (go_at_call 59;refine(HB2.out _ hb).mono ?_;rintro e w4 ⟨r,rfl,hG⟩;dsimp only)
      exact⟨rfl,_,rfl,hG.below,r,rfl,Loc.since hb ((Loc.start _).gotP hG hbl)⟩
     simp only[apN,apC]
     refine dv2 3 5 ?_
     refine Qw hL (by kernel_rfl) (by kernel_rfl) ?_
     intro g w3 hb hR;simp only[List.length_cons,List.length_nil,Nat.reduceAdd]at hR
     have e0:=yv hR 0
     have e1:=yv hR 1
     have e2:=yv hR 2
     have e3:=yv hR 3
     have e4:=yv hR 4
     have e5:=yv hR 5
     have e6:=yv hR 6
     have e7:=yv hR 7
     have e8:=yv hR 8
     have e9:=yv hR 9
     have e10:=yv hR 10
     have e11:=yv hR 11
     have e12:=yv hR 12
     have e13:=yv hR 13
     have e14:=yv hR 14
     have e15:=yv hR 15
     have e16:=yv hR 16
     have e17:(JM wq d3) (g 49) w3:=yr hR 17
     obtain⟨⟨rn,⟨rp,rvn,rvc⟩,⟨rfp,rfn,rfc⟩⟩,e17,hG⟩:=e17
     have e18:=yv hR 18
     clear hR;simp only[za,fLa,fLb,sTa,sTb]
     simp only[e0,e1,e2,e3,e4,e5,e6,e7,e8,e9,e10,e11,e12,e13,e14,e15,e16,e17,e18]
     clear e0 e1 e2 e3 e4 e5 e6 e7 e8 e9 e10 e11 e12 e13 e14 e15 e16 e17 e18
     replace hL:=hL.gave hG
     clear hb
     simp only[List.append_nil,List.cons_append,List.nil_append]at hL
     go_wp2_with (first|(refine qa (b:=bp') (off:=t*3) (vs:=Pv.cells ⟨rn,⟨rp,rvn,rvc⟩,⟨rfp,rfn,rfc⟩⟩) (cs':=zk cr (t*3) (Pv.cells ⟨rn,⟨rp,rvn,rvc⟩,⟨rfp,rfn,rfc⟩⟩)) hL rfl rfl cIn rfl ZK.sz rfl HSZ.out rfl ?_;clear hL;intro w' hL))
     refine YZ ?_
     go_wp2_with (first|(with_reducible refine zd hL ?_;clear hL;intro w1 hL))
     (try simp only[Exit.then,Exit.inBlock,↓reduceIte])
     refine⟨⟨?_,?_⟩,(hL.get (S:=Km wb.heap.size W) cMm).keep (by omega)⟩
     ·change JD w0 p bs _ [(b5,4,[.bool (jf (decide (3<n)) i ((t:Int),de) (l,ch)).2]),_,_] (jf (decide (3<n)) i ((t:Int),de) (l,ch)).1 _
      rw[HNF2.out]
      refine⟨xs.set t ⟨rn,⟨rp,rvn,rvc⟩,⟨rfp,rfn,rfc⟩⟩,[(bp',54,zk cr (t*3) (Pv.cells ⟨rn,⟨rp,rvn,rvc⟩,⟨rfp,rfn,rfc⟩⟩))],by simp only[List.length_set];exact HL.out,HPUT.out _,?_⟩
      refine(hL.drop (D':=[fun w=>zN w ⟨rn,⟨rp,rvn,rvc⟩,⟨rfp,rfn,rfc⟩⟩ d3,y8 xs l]) (List.Sublist.refl _) (fun S hS=>?_)).both (fun w h1 h2=>HSET.out w _ d3 h1 h2)
      simp only[List.mem_cons,List.not_mem_nil,or_false]at hS ⊢
      rcases hS with rfl|rfl<;>simp
     ·change qI p is (jf (decide (3<n)) i ((t:Int),de) (l,ch)).1
      rw[HNF2.out]
      exact HOF2.out
  ·have hg:decide ((3:Int)<(n:Int))=false:=decide_eq_false (by omega)
   all_goals
    have HB:=Lib.hid (HBO.out 60 both KU Js)
    have hnf:=HNX.out
    have hof:=HOKN.out
    rw[show (if (decide (3<n)&&decide ((t:Int)≤i))=true then jA else both)=both by simp[h3]]at hnf hof
    have HNF:=Lib.hid hnf
    have HOF:=Lib.hid hof
    generalize both=f at HB HNF HOF
    clear hnf hof HNX HOKN HBO
    go_wp2_with (first|(with_reducible refine lld hL ?_)|(with_reducible refine ldD hL ?_))
    iterate 6 gi_step
    clear hg h3
    simp only[List.cons_append,List.nil_append]at hL
    refine J7 ?_
    refine yq [21,22,23,24,25,26,27,28,29,30,31] ?_
    refine dv0 ?_
    refine dv1 0 ?_
    apply zb
    ·intro g w hb y;replace hL:=hL.grow hb;clear y;simp only[za,fLa,fLb,sTa,sTb]
     refine ldO (ze.cell YE rfl) hL ?_
     exact cY
    simp only[apN,apC]
    apply zb
    ·intro g w hb y;replace hL:=hL.grow hb;have d2:=yv y 2;clear y;simp only[za,fLa,fLb,sTa,sTb];simp only[d2]
     go_wp2
     exact cY
    simp only[apN,apC]
    refine dv1 3 ?_
    refine dv1 4 ?_
    refine dv0 ?_
    refine dv1 6 ?_
    refine dv2 5 7 ?_
    apply zb
    ·intro g w hb y;replace hL:=hL.grow hb;have d8:=yv y 8;clear y;simp only[za,fLa,fLb,sTa,sTb];simp only[d8]
     refine zR hL rfl rfl cIn HG1.out ?_
     exact cY
    simp only[apN,apC]
    apply zb
    ·intro g w hb y;replace hL:=hL.grow hb;have d1:=yv y 1;have d9:=yv y 9;clear y;simp only[za,fLa,fLb,sTa,sTb];simp only[d1,d9]
     go_wp2_with (go_at_call 100;refine(HIN.out _ hb).mono ?_;rintro e w3 ⟨rfl,hb3⟩;dsimp only)
     exact⟨rfl,_,rfl,hb3,rfl⟩
    simp only[apN,apC]
    refine Qw hL (by kernel_rfl) (by kernel_rfl) ?_
    intro g w2 hb hR;simp only[List.length_cons,List.length_nil,Nat.reduceAdd]at hR
    have e0:=yv hR 0
    have e1:=yv hR 1
    have e2:=yv hR 2
    have e3:=yv hR 3
    have e4:=yv hR 4
    have e5:=yv hR 5
    have e6:=yv hR 6
    have e7:=yv hR 7
    have e8:=yv hR 8
    have e9:=yv hR 9
    have e10:=yv hR 10
    clear hR;simp only[za,fLa,fLb,sTa,sTb]
    simp only[e0,e1,e2,e3,e4,e5,e6,e7,e8,e9,e10]
    clear e0 e1 e2 e3 e4 e5 e6 e7 e8 e9 e10
    replace hL:=hL.grow hb
    have hbW:=hb
    clear hb
    clear HIN
    cases ins with
    | true=>
     go_wp2
     iterate 2 gi_step
     simp only[Exit.then,Exit.inBlock,↓reduceIte]
     have hnf:=HNF.out
     rw[if_pos (by first|rfl|trivial)]at hnf
     refine⟨⟨?_,?_⟩,(hL.get (S:=Km wb.heap.size W) cMm).keep (by omega)⟩
     ·change JD w0 p bs _ [(b5,4,[.bool (jf (decide (3<n)) i ((t:Int),de) (l,ch)).2]),_,_] (jf (decide (3<n)) i ((t:Int),de) (l,ch)).1 w2
      rw[hnf]
      exact⟨xs,[(bp',54,cr)],HL.out,HR.out,hL.drop (List.Sublist.refl _) (fun S hS=>List.mem_cons_of_mem _ (List.mem_cons_of_mem _ hS))⟩
     ·change qI p is (jf (decide (3<n)) i ((t:Int),de) (l,ch)).1
      rw[hnf]
      exact HOK.out
    | false=>
     have hof:=HOF.out
     rw[if_neg (by decide)]at hof
     have HOF2:=Lib.hid hof
     have hrd:qd p is (yl f lt de)=0:=by
      have h1:=hof.r t htp
      rwa [qy _ _ _ _ _ (by rw[HLEN.out];omega),if_pos rfl]at h1
     have hbl:=Jc hp hrd
     have HB2:=Lib.hid (fun w' (hb:Below w2.heap.size w2 w')=>HB.out w' (hbW.trans (hb.mono hbW.size)))
     have hnf:=HNF.out
     rw[if_neg (by decide)]at hnf
     have HNF2:=Lib.hid hnf
     clear HB hof hrd hnf HNF hbW
     generalize hd3:yl f lt de=d3 at *
     clear hd3
     go_wp2
     iterate 5 gi_step
     obtain⟨wq,hwq⟩:∃ x,x=w2:=⟨_,rfl⟩
     subst hwq
     refine J7 ?_
     refine yq [32,33,34,35,36,37,38,39,40,41,42,43,44,45,46,47,48,49,50] ?_
     apply zb
     ·intro g w hb y;replace hL:=hL.grow hb;clear y;simp only[za,fLa,fLb,sTa,sTb]
      refine ldO (ze.cell YE rfl) hL ?_
      exact cY
     simp only[apN,apC]
     refine dv1 0 ?_
     refine dv1 1 ?_
     refine dv1 2 ?_
     refine dv0 ?_
     refine dv1 4 ?_
     apply zb
     ·intro g w hb y;replace hL:=hL.grow hb;clear y;simp only[za,fLa,fLb,sTa,sTb]
      refine ldO (ze.cell YE rfl) hL ?_
      exact cY
     simp only[apN,apC]
     refine dv1 6 ?_
     refine dv1 7 ?_
     refine dv1 8 ?_
     refine dv0 ?_
     refine dv1 10 ?_
     refine dv2 9 11 ?_
     apply zb
     ·intro g w hb y;replace hL:=hL.grow hb;have d12:=yv y 12;clear y;simp only[za,fLa,fLb,sTa,sTb];simp only[d12]
      refine zR hL rfl rfl cIn HG1.out ?_
      exact cY
     simp only[apN,apC]
     refine dv0 ?_
     refine dv1 14 ?_
     refine dv0 ?_
     refine zh (JM wq d3) JM.stable ?_ ?_
     ·intro g w hb y;replace hL:=hL.grow hb;have d13:=yv y 13;have d15:=yv y 15;have d16:=yv y 16;clear y;simp only[za,fLa,fLb,sTa,sTb];simp only[d13,d15,d16]
      go_wp2_with (go_at_call 59;refine(HB2.out _ hb).mono ?_;rintro e w4 ⟨r,rfl,hG⟩;dsimp only)
      exact⟨rfl,_,rfl,hG.below,r,rfl,Loc.since hb ((Loc.start _).gotP hG hbl)⟩
     simp only[apN,apC]
     refine dv2 3 5 ?_
     refine Qw hL (by kernel_rfl) (by kernel_rfl) ?_
     intro g w3 hb hR;simp only[List.length_cons,List.length_nil,Nat.reduceAdd]at hR
     have e0:=yv hR 0
     have e1:=yv hR 1
     have e2:=yv hR 2
     have e3:=yv hR 3
     have e4:=yv hR 4
     have e5:=yv hR 5
     have e6:=yv hR 6
     have e7:=yv hR 7
     have e8:=yv hR 8
     have e9:=yv hR 9
     have e10:=yv hR 10
     have e11:=yv hR 11
     have e12:=yv hR 12
     have e13:=yv hR 13
     have e14:=yv hR 14
     have e15:=yv hR 15
     have e16:=yv hR 16
     have e17:(JM wq d3) (g 49) w3:=yr hR 17
     obtain⟨⟨rn,⟨rp,rvn,rvc⟩,⟨rfp,rfn,rfc⟩⟩,e17,hG⟩:=e17
     have e18:=yv hR 18
     clear hR;simp only[za,fLa,fLb,sTa,sTb]
     simp only[e0,e1,e2,e3,e4,e5,e6,e7,e8,e9,e10,e11,e12,e13,e14,e15,e16,e17,e18]
     clear e0 e1 e2 e3 e4 e5 e6 e7 e8 e9 e10 e11 e12 e13 e14 e15 e16 e17 e18
     replace hL:=hL.gave hG
     clear hb
     simp only[List.append_nil,List.cons_append,List.nil_append]at hL
     go_wp2_with (first|(refine qa (b:=bp') (off:=t*3) (vs:=Pv.cells ⟨rn,⟨rp,rvn,rvc⟩,⟨rfp,rfn,rfc⟩⟩) (cs':=zk cr (t*3) (Pv.cells ⟨rn,⟨rp,rvn,rvc⟩,⟨rfp,rfn,rfc⟩⟩)) hL rfl rfl cIn rfl ZK.sz rfl HSZ.out rfl ?_;clear hL;intro w' hL))
     refine YZ ?_
     go_wp2_with (first|(with_reducible refine zd hL ?_;clear hL;intro w1 hL))
     (try simp only[Exit.then,Exit.inBlock,↓reduceIte])
     refine⟨⟨?_,?_⟩,(hL.get (S:=Km wb.heap.size W) cMm).keep (by omega)⟩
     ·change JD w0 p bs _ [(b5,4,[.bool (jf (decide (3<n)) i ((t:Int),de) (l,ch)).2]),_,_] (jf (decide (3<n)) i ((t:Int),de) (l,ch)).1 _
      rw[HNF2.out]
      refine⟨xs.set t ⟨rn,⟨rp,rvn,rvc⟩,⟨rfp,rfn,rfc⟩⟩,[(bp',54,zk cr (t*3) (Pv.cells ⟨rn,⟨rp,rvn,rvc⟩,⟨rfp,rfn,rfc⟩⟩))],by simp only[List.length_set];exact HL.out,HPUT.out _,?_⟩
      refine(hL.drop (D':=[fun w=>zN w ⟨rn,⟨rp,rvn,rvc⟩,⟨rfp,rfn,rfc⟩⟩ d3,y8 xs l]) (List.Sublist.refl _) (fun S hS=>?_)).both (fun w h1 h2=>HSET.out w _ d3 h1 h2)
      simp only[List.mem_cons,List.not_mem_nil,or_false]at hS ⊢
      rcases hS with rfl|rfl<;>simp
     ·change qI p is (jf (decide (3<n)) i ((t:Int),de) (l,ch)).1
      rw[HNF2.out]
      exact HOF2.out
 case hdone=>
  rintro D W hD ⟨hs,hok⟩ hK
  have hb5:W.cell? ⟨b5,0,none⟩=some (.bool (qm is (jf (decide (3<n))) Prod.fst p.n (l,false)).2):=by
   obtain⟨xs2,R2,_,_,hL2⟩:=hs
   have h5:=hL2.cells (b5,4,[.bool (qm is (jf (decide (3<n))) Prod.fst p.n (l,false)).2]) (List.mem_cons_of_mem _ (List.mem_append_right _ List.mem_cons_self))
   simp[World.cell?,h5]
  generalize hfin:qm is (jf (decide (3<n))) Prod.fst p.n (l,false)=fin at hs hok hb5
  have HF:=Lib.hid hfin
  clear hfin
  gi_wp2
  refine⟨by simp,.inl ⟨_,_,rfl,run_takeDeferred hK,?_⟩⟩
  refine⟨_,results_tmp rfl _ _ _,(by rw[HF.out];rfl),?_,by rw[HF.out];exact hok⟩
  rw[HF.out]
  obtain⟨xs2,R2,h1,h2,hL2⟩:=hs
  refine⟨xs2,R2,h1,h2,?_⟩
  exact(hL2.turnL (r:=D) (by omega) (fun ⟨_,_,_,hc2⟩=>by rw[hK]at hc2;cases hc2)).drop (List.Sublist.cons_cons _ (by rw[List.append_nil];exact List.sublist_append_left _ _)) (fun _ hS=>hS)
end Go.Proofs.YtplcndmdkabmeaaGreatDoor
