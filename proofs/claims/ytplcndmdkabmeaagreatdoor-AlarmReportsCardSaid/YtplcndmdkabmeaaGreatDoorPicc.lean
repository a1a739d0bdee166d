/- What a picture's reading hangs on: blocks of cells alone. Plain, of any world. Conditions: none. | The walks over picture.each and the function that picture.Both hands it. Conditions: rows of one length, few sites. | The walk over picture.Both at two pictures of runs. Conditions: pictures of one form, few guesses, few sites. | The walks over picture.None, Own, Both. What a picture in new memory is. Conditions: pictures of one form, few guesses, few sites. | The walk over the reference's CheckPicture, CheckPictures. Conditions: what they read lies in memory that was there. | The walk over the reference's CheckPictures. Conditions: what they read lies in memory that was there. | Plain facts on right pictures. Conditions: those of each law. | Plain facts: what a right picture of runs is, part by part. Conditions: none. | The walks over picture.Join, Widen. Conditions: what they read lies in memory that was there. | The walks over picture.Inside, Within. Conditions: what they read lies in memory that was there. | The walk over picture.Within. Conditions: what it reads lies in memory that was there. | The walk over the reference's SameGuesses at rows that say the same. Conditions: what they read lies in memory that was there. | The walk over pictureIs. Conditions: what it reads lies in memory that was there. -/
import Derived.Test.YtplcndmdkabmeaaGreatDoorPica
import Derived.Test.YtplcndmdkabmeaaGreatDoorGue
import Derived.Deep.CutBlock
set_option linter.unusedSimpArgs false
set_option linter.unusedVariables false
set_option maxRecDepth 100000
namespace Go.Proofs.YtplcndmdkabmeaaGreatDoor
open Go.RowKit
def QW (w:World) (b:Nat):World:={ w with heap:=w.heap.setIfInBounds b (.cells #[] 0 (0,0)) }
theorem Qk {w:World}{b c:Nat}(h:c≠b):(QW w b).heap[c]? = w.heap[c]? :=by
 simp[QW,Array.getElem?_setIfInBounds,Ne.symm h]
theorem zad (w:World) (b o:Nat):(QW w b).cell? ⟨b,o,none⟩=none:=by
 unfold World.cell?
 show (match (w.heap.setIfInBounds b (.cells #[] 0 (0,0)))[b]? with
  | some (.cells c _ _)=>if (none:Option _).isSome then none else c[o]?
  | _=>none)=none
 rw[Array.getElem?_setIfInBounds]
 by_cases h:b<w.heap.size
 ·simp[h]
 ·simp[h]
theorem zae {w:World}{b c o:Nat}(h:c≠b):(QW w b).cell? ⟨c,o,none⟩=w.cell? ⟨c,o,none⟩:=by
 simp only[World.cell?,Qk h]
def yY (w:World) (b:Nat):Prop:=∃ (cs:Array Value) (T:TypeId) (f:Nat × Nat),w.heap[b]? = some (.cells cs T f)
theorem zbv {w:World}{b o:Nat}{v:Value}(h:w.cell? ⟨b,o,none⟩=some v):yY w b:=by
 unfold World.cell? at h
 dsimp only at h
 split at h
 ·rename_i c T f hc;exact⟨c,T,f,hc⟩
 ·cases h
section
variable {w w' : World} {X : Nat → Prop}
theorem je.on {es:Nat}{p:Option Addr}{n:Nat}{cells:Nat→List Value}(h:je w es p n cells) (hne:∀ k,k<n→cells k≠[]) (hX:∀ b o,0<n→p=some ⟨b,o,none⟩→X b)
  (hw:∀ b,X b→yY w b→w'.heap[b]? = w.heap[b]?):je w' es p n cells:=by
 obtain⟨b,o,hp,hc⟩:=h.ex
 refine⟨b,o,hp,fun k hk=>?_⟩
 obtain⟨h1,h2⟩:=hc k hk
 have hb:yY w b:=by
  cases hcs:cells k with
  | nil=>exact absurd hcs (hne k hk)
  | cons v l=>exact zbv (h2 0 v (by rw[hcs];rfl))
 have he:=hw b (hX b o (by omega) (hp (by omega))) hb
 have e2:∀ j,w'.cell? ⟨b,j,none⟩=w.cell? ⟨b,j,none⟩:=fun j=>by simp only[World.cell?,he]
 refine⟨?_,fun j v hj=>by rw[e2];exact h2 j v hj⟩
 obtain⟨cs,T,f,h3⟩:=hb
 rw[h3]at he
 exact zL he
theorem je.erased {es:Nat}{p:Option Addr}{n:Nat}{cells:Nat→List Value}{b o:Nat}(h:je (QW w b) es p n cells) (hn:0<n) (hp:p=some ⟨b,o,none⟩) (hne:cells 0≠[]):False:=by
 obtain⟨b',o',hp',hc⟩:=h.ex
 have h1:=hp' hn
 rw[hp]at h1
 obtain⟨rfl,rfl⟩:b=b'∧o=o':=by simpa using h1
 cases hcs:cells 0 with
 | nil=>exact hne hcs
 | cons v l=>
  have h2:=(hc 0 hn).2 0 v (by rw[hcs];rfl)
  rw[zad]at h2
  cases h2
theorem je.same {es:Nat}{p:Option Addr}{n:Nat}{c1 c2:Nat→List Value}{b:Nat}(h:je w es p n c1) (h' : je (QW w b) es p n c2) (hn:∀ o,p≠some ⟨b,o,none⟩) {k j:Nat}(hk:k<n) {u v:Value}(hu:(c1 k)[j]? = some u) (hv:(c2 k)[j]? = some v):u=v:=by
 obtain⟨b1,o1,hp1,hc1⟩:=h.ex
 obtain⟨b2,o2,hp2,hc2⟩:=h'.ex
 have e1:=hp1 (by omega)
 have e2:=hp2 (by omega)
 rw[e1]at e2
 obtain⟨rfl,rfl⟩:b1=b2∧o1=o2:=by simpa using e2
 have hne:b1≠b:=fun e=>hn o1 (by rw[e1,e])
 have h1:=(hc1 k hk).2 j u hu
 have h2:=(hc2 k hk).2 j v hv
 rw[zae hne,h1]at h2
 exact Option.some.inj h2
theorem zp.on {s:Sl}{l:List Int}(h:zp w s l) (hX:∀ b o,0<s.n→s.p=some ⟨b,o,none⟩→X b) (hw:∀ b,X b→yY w b→w'.heap[b]? = w.heap[b]?):zp w' s l:=
 ⟨h.n,h.m,h.at'.on (fun _ _ e=>by cases e) hX hw⟩
theorem jW.on {s:Sl}{ds:List Res}(h:jW w s ds) (hE:∀ b,¬ X b→jW (QW w b) s ds) (hw:∀ b,X b→yY w b→w'.heap[b]? = w.heap[b]?):jW w' s ds:=by
 obtain⟨h1,h2,ss,h3,h4⟩:=h
 have hb:∀ b o,0<s.n→s.p=some ⟨b,o,none⟩→X b:=fun b o hn hp=>by
  apply Classical.byContradiction
  intro hx
  obtain⟨_,_,ss',h3',_⟩:=hE b hx
  exact h3'.erased hn hp (fun e=>by cases e)
 refine⟨h1,h2,ss,h3.on (fun _ _ e=>by cases e) hb hw,fun k hk=>(h4 k hk).on (fun b o hn hp=>?_) hw⟩
 apply Classical.byContradiction
 intro hx
 obtain⟨_,_,ss',h3',h4'⟩:=hE b hx
 have hne:∀ o,s.p≠some ⟨b,o,none⟩:=fun o e=>hx (hb b o (by omega) e)
 have e:(Value.slice (ss k).p (ss k).n (ss k).cap)=.slice (ss' k).p (ss' k).n (ss' k).cap:=h3.same h3' hne hk (j:=6) rfl rfl
 obtain⟨e1,e2,_⟩:(ss k).p=(ss' k).p∧(ss k).n=(ss' k).n∧(ss k).cap=(ss' k).cap:=by simpa using e
 exact(h4' k hk).at'.erased (by omega) (by rw[← e1];exact hp) (fun e=>by cases e)
theorem QT.on {s:Sl}{dss:List (List Res)}(h:QT w s dss) (hE:∀ b,¬ X b→QT (QW w b) s dss) (hw:∀ b,X b→yY w b→w'.heap[b]? = w.heap[b]?):QT w' s dss:=by
 obtain⟨h1,h2,rs,h3,h4⟩:=h
 have hb:∀ b o,0<s.n→s.p=some ⟨b,o,none⟩→X b:=fun b o hn hp=>by
  apply Classical.byContradiction
  intro hx
  obtain⟨_,_,rs',h3',_⟩:=hE b hx
  exact h3'.erased hn hp (fun e=>by cases e)
 refine⟨h1,h2,rs,h3.on (fun _ _ e=>by cases e) hb hw,fun k hk=>(h4 k hk).on (fun b hx=>?_) hw⟩
 obtain⟨_,_,rs',h3',h4'⟩:=hE b hx
 have hne:∀ o,s.p≠some ⟨b,o,none⟩:=fun o e=>hx (hb b o (by omega) e)
 have e:(Value.slice (rs k).p (rs k).n (rs k).cap)=.slice (rs' k).p (rs' k).n (rs' k).cap:=h3.same h3' hne hk (j:=0) rfl rfl
 obtain⟨e1,e2,e3⟩:(rs k).p=(rs' k).p∧(rs k).n=(rs' k).n∧(rs k).cap=(rs' k).cap:=by simpa using e
 have e4:rs k=rs' k:=by
  generalize rs k=a at *
  generalize rs' k=b at *
  obtain⟨a1,a2,a3⟩:=a
  obtain⟨b1,b2,b3⟩:=b
  dsimp only at e1 e2 e3
  subst e1 e2 e3
  rfl
 rw[e4]
 exact h4' k hk
theorem zN.on {x:Pv}{d:Pd}(h:On w X (fun w=>zN w x d)) (hw:∀ b,X b→yY w b→w'.heap[b]? = w.heap[b]?):zN w' x d:=by
 have h0:=h w (fun _ _=>rfl)
 have hE:∀ b,¬ X b→zN (QW w b) x d:=fun b hx=>h _ (fun c hc=>Qk (fun e=>hx (by rw[← e];exact hc)))
 exact⟨h0.e,h0.vars.on (fun b hx=>(hE b hx).vars) hw,h0.fields.on (fun b hx=>(hE b hx).fields) hw,h0.m⟩
end
set_option maxHeartbeats 1600000
theorem zet:yg Tryz.prog 117:=⟨by kernel_rfl,by kernel_rfl⟩
abbrev qB (f:zq→zq→zq) (d e:Res):Res:=⟨d.null || e.null,f d.span e.span,d.tr || e.tr,d.fa || e.fa,y7 d.l e.l⟩
theorem Q4 {w w1:World}{r:Sl}{R:List zj}{l:List Int}(h:zM 3 1 r.p r.n r.cap (l.map (Value.int .i64)) R) (ho:Own w.heap.size w1 R):GE w w1 (fun w=>zp w r l):=
 ⟨fun b=>∃ e∈R,e.1=b,fun b ⟨e,he,heb⟩=>by subst heb;exact⟨(ho.at' e he).1,zL (ho.at' e he).2⟩,fun w' hw'=>h.ints (B:=w.heap.size) ⟨ho.nodup,fun e he=>⟨(ho.at' e he).1,by rw[hw' e.1 ⟨e,he,rfl⟩];exact(ho.at' e he).2⟩⟩⟩
theorem zfz (K:FuncId) (f:zq→zq→zq) (he:∀ args w,(callFunc K args).run Tryz.prog w=.ok (.enter K args) w)
  (hf:∀ (s t:zq) (w:World),Calls Tryz.prog K #[s.v,t.v] w fun e w'=>e=.returned (f s t).v∧Below w.heap.size w w')
  (g h:Gu) (d e:Res) (bd:Nat) (w:World) (hrd:zg Tryz.prog 117 w bd 0 (.func (.func K) #[] #[])) (hg:qq w g d) (hh:qq w h e) (hlen:(d.l.length+e.l.length)*8≤140737488351232):
  Calls Tryz.prog 103 #[g.v,h.v,.pointer (some ⟨bd,0,none⟩)] w fun x w'=>∃ r:Sl,x=.returned ((qB f d e).gu r).v∧Q7 w.heap.size w' r (y7 d.l e.l)∧Below w.heap.size w w':=by
 have hb:=fun w' (hb:Below w.heap.size w w')=>Yu K f he hf g h d.l e.l w' (hg.l.grow hb) (hh.l.grow hb) hlen
 have e1:=hg.e
 have e2:=hh.e
 have hq:∀ r:Sl,(⟨g.null || h.null,f g.span h.span,g.tr || h.tr,g.fa || h.fa,r⟩:Gu)=(qB f d e).gu r:=fun r=>by rw[e1,e2]
 simp only[hq]at hb
 clear hq e1 e2 hg hh hlen hf he
 generalize qB f d e=B at hb ⊢
 obtain⟨bn,⟨bs,blo,bhi⟩,bt,bf,bl⟩:=B
 dsimp only[Res.gu]at hb ⊢
 obtain⟨gl,⟨gn,glo,ghi⟩,gt,gf,⟨gp,gk,gc⟩⟩:=g
 obtain⟨hl',⟨hn,hlo,hhi⟩,ht,hf,⟨hp,hk,hc⟩⟩:=h
 try dsimp only at hb
 generalize y7 d.l e.l=ml at hb ⊢
 have HB:=Lib.hid hb
 have HRD:=Lib.hid hrd
 clear hb hrd
 have hL:=Loc.start w
 go_enter Tryz.func103,Tryz.ntmps103
 go_wp2_with (first|(with_reducible refine ldB HRD.out hL ?_)|(with_reducible first|refine lld hL ?_|((first|refine lbx hL ?_|refine lal hL ?_|refine lbs hL ?_);clear hL;intro bl w1 hL)|(refine zd hL ?_;clear hL;intro w1 hL))|(go_at_call 104;refine(HB.out _ hL.below).mono ?_;rintro e w3 ⟨⟨rp,rn,rc⟩,rfl,⟨R,hr,ho⟩,hb3⟩;replace hL:=hL.gainTail hb3 ho;simp only[List.cons_append,List.nil_append]at hL;clear hb3 ho;dsimp only))
 (try simp only[Exit.inBlock,Exit.then]);refine rt1 ?_
 exact⟨⟨rp,rn,rc⟩,rfl,⟨R,hr,hL.ownOf (List.sublist_append_right [_,_,_] _)⟩,hL.below⟩
def y5 (B:Nat) (a:Bool) (s:zq) (b c:Bool) (l:List Int):Value→World→Prop:=fun v w=>∃ (r:Sl) (R:List zj) (bf:Nat),v=.slice (some ⟨bf,0,none⟩) 1 1∧zM 3 1 r.p r.n r.cap (l.map (Value.int .i64)) R∧Own B w R∧w.heap[bf]? = some (.cells (Gu.cells ⟨a,s,b,c,r⟩).toArray 108 (0,0))
theorem y5.stable {B:Nat}{a:Bool}{s:zq}{b c:Bool}{l:List Int}:∀ v w w',Below w.heap.size w w'→y5 B a s b c l v w→y5 B a s b c l v w':=fun _ _ _ hb ⟨r,R,bf,h1,h2,h3,h4⟩=>⟨r,R,bf,h1,h2,h3.grow hb,by rw[hb.block _ (zL h4)];exact h4⟩
def yi (f:zq→zq→zq) (ds es:List Res) (k:Nat):List Res:=(List.range k).map fun j=>qB f (ds.getD j zy) (es.getD j zy)
abbrev qF (f:zq→zq→zq) (ds es:List Res):List Res:=yi f ds es ds.length
theorem Z0 (f:zq→zq→zq) (ds es:List Res) (k:Nat):yi f ds es (k+1)=yi f ds es k++[qB f (ds.getD k zy) (es.getD k zy)]:=by
 unfold yi
 rw[List.range_succ,List.map_append]
 rfl
theorem Y3 (f:zq→zq→zq) (ds es:List Res) (k:Nat):(yi f ds es k).length=k:=by simp[yi]
theorem zaf (K:FuncId) (f:zq→zq→zq) (he:∀ args w,(callFunc K args).run Tryz.prog w=.ok (.enter K args) w)
  (hf:∀ (s t:zq) (w:World),Calls Tryz.prog K #[s.v,t.v] w fun e w'=>e=.returned (f s t).v∧Below w.heap.size w w')
  (a b:Sl) (ds es:List Res) (bd:Nat) (w:World) (hrd:zg Tryz.prog 117 w bd 0 (.func (.func K) #[] #[])) (ha:jW w a ds) (hb:jW w b es) (hn:ds.length=es.length) (h1000:ds.length≤1000)
  (hs:∀ k,k<ds.length→(ds.getD k zy).l.length≤1000∧(es.getD k zy).l.length≤1000):
  Calls Tryz.prog 105 #[a.v,b.v,.func (.func 103) #[] #[.pointer (some ⟨bd,0,none⟩)]] w fun x w'=>∃ (r:Sl) (gl:List Gu) (R:List zj),x=.returned r.v∧zM 108 7 r.p r.n r.cap (gl.flatMap Gu.cells) R∧Loc w w' R [fun w=>zX w gl (qF f ds es)]:=by
 obtain⟨sa,hal,hai⟩:=ha.ex
 obtain⟨sb,hbl,hbi⟩:=hb.ex
 have hna:=ha.n
 have hnb:=hb.n
 obtain⟨ba,oa,hpa,hca⟩:=hal.ex
 obtain⟨bb,ob,hpb,hcb⟩:=hbl.ex
 obtain⟨ap,an,ac⟩:=a
 obtain⟨bp,bn,bc⟩:=b
 dsimp only at hna hnb hpa hca hpb hcb hai hbi
 subst hna hnb
 have HPUT:=Lib.hid (fun k (hk:k<ds.length) w' (hb:Below w.heap.size w w')=>zfz K f he hf ((ds.getD k zy).gu (sa k)) ((es.getD k zy).gu (sb k)) (ds.getD k zy) (es.getD k zy) bd w' (hrd.grow hb) (qq.mk' ((hai k hk).grow hb)) (qq.mk' ((hbi k (by omega)).grow hb)) (by have:=hs k hk;omega))
 have HPA:=Lib.hid hpa
 have HPB:=Lib.hid hpb
 have HCA:=Lib.hid hca
 have HCB:=Lib.hid hcb
 have HN:=Lib.hid hn
 have h1001:es.length≤1000:=by omega
 clear ha hb hal hbl hai hbi hpa hpb hca hcb hn hs hrd
 dsimp only[Sl.v]
 have hL:=Loc.start w
 go_enter Tryz.func105,Tryz.ntmps105
 go_wp2_with (first|(with_reducible first|refine lld hL ?_|((first|refine lbx hL ?_|refine lal hL ?_|refine lbs hL ?_);clear hL;intro bl w1 hL)|(refine zd hL ?_;clear hL;intro w1 hL)))
 go_loopw [7,11] (fun c7 c11 wr=>∃ (k:Nat) (p7:Option Addr) (cap7:Nat) (R7:List zj) (gl:List Gu),k≤ds.length∧c7=.slice p7 k cap7∧c11=.int .i64 k∧zM 108 7 p7 k cap7 (gl.flatMap Gu.cells) R7∧Loc w wr R7 [fun w=>zX w gl (yi f ds es k)]) (fun _ c _=>ds.length - (intOf c).toNat)
 case atStart=>exact⟨0,none,0,[],[],Nat.zero_le _,rfl,rfl,zM.nil,hL.pure (fun w=>zX.nil w)⟩
 case round=>
  obtain⟨k,p7,cap7,R7,gl,hk,rfl,rfl,hS7,hL⟩:=hrel
  have HS7:=Lib.hid hS7
  clear hS7
  by_cases hlt:k<ds.length
  ·obtain rfl:=HPA.out (by omega)
   obtain rfl:=HPB.out (by have:=HN.out;omega)
   clear HPA HPB
   have hr1:=zg.agg (P:=Tryz.prog) zZ (HCA.out k hlt).1 (HCA.out k hlt).2 rfl
   have hr2:=zg.agg (P:=Tryz.prog) zZ (HCB.out k (by have:=HN.out;omega)).1 (HCB.out k (by have:=HN.out;omega)).2 rfl
   have hput:=HPUT.out k hlt
   have hnx:=Z0 f ds es k
   generalize hB:qB f (ds.getD k zy) (es.getD k zy)=B at hput hnx
   have hml:y7 (ds.getD k zy).l (es.getD k zy).l=B.l:=by rw[← hB]
   rw[hml]at hput
   clear hB hml
   have hlt2:k<es.length:=by have:=HN.out;omega
   generalize ds.getD k zy=d at hr1 hput
   generalize es.getD k zy=e at hr2 hput
   generalize sa k=s at hr1 hput
   generalize sb k=t at hr2 hput
   obtain⟨dn,⟨ds',dlo,dhi⟩,dt,df,dl⟩:=d
   obtain⟨en,⟨es',elo,ehi⟩,et,ef,el⟩:=e
   obtain⟨sp,sc,scap⟩:=s
   obtain⟨tp,tc,tcap⟩:=t
   obtain⟨Bn,⟨Bs,Blo,Bhi⟩,Bt,Bf,Bl⟩:=B
   dsimp only[Res.gu]at hr1 hr2 hput
   have HR1:=Lib.hid hr1
   have HR2:=Lib.hid hr2
   have HPK:=Lib.hid hput
   have HNX:=Lib.hid hnx
   clear hr1 hr2 hput hnx
   obtain⟨wq,hwq⟩:∃ x,x=wr:=⟨_,rfl⟩
   subst hwq
   go_upto_region 5 with(first|(with_reducible first|refine lld hL ?_|((first|refine lbx hL ?_|refine lal hL ?_|refine lbs hL ?_);clear hL;intro bl w1 hL)|(refine zd hL ?_;clear hL;intro w1 hL)))
   refine zf [14,15,16,17,18,19,20,21,22,23,24,25] ?_
   refine dv0 ?_
   refine dv0 ?_
   refine dv0 ?_
   refine dv0 ?_
   refine dv2 2 3 ?_
   apply zb
   ·intro g w hb V;replace hL:=hL.grow hb;have d4:=yv V 4;clear V;simp only[za,fLa,fLb,sTa,sTb];simp only[d4]
    refine zo HR1.out hL rfl rfl ?_
    exact cY
   simp only[apN,apC]
   refine dv0 ?_
   refine dv0 ?_
   refine dv2 6 7 ?_
   apply zb
   ·intro g w hb V;replace hL:=hL.grow hb;have d8:=yv V 8;clear V;simp only[za,fLa,fLb,sTa,sTb];simp only[d8]
    refine zo HR2.out hL rfl rfl ?_
    exact cY
   simp only[apN,apC]
   refine zh (GuR wq.heap.size Bn ⟨Bs,Blo,Bhi⟩ Bt Bf Bl) GuR.stable ?_ ?_
   ·intro g w hb V;replace hL:=hL.grow hb;have d1:=yv V 1;have d5:=yv V 5;have d9:=yv V 9;clear V;simp only[za,fLa,fLb,sTa,sTb];simp only[d1,d5,d9]
    go_wp2_with ((with_reducible refine(HPK.out _ hL.below).mono ?_);rintro e w3 ⟨r,rfl,⟨R,hr,ho⟩,hb3⟩;dsimp only)
    exact⟨rfl,_,rfl,hb3,r,R,rfl,hr,ho.mono hb.size⟩
   simp only[apN,apC]
   refine zh (y5 wq.heap.size Bn ⟨Bs,Blo,Bhi⟩ Bt Bf Bl) y5.stable ?_ ?_
   ·intro g w hb V;replace hL:=hL.grow hb;have d10:(GuR wq.heap.size Bn ⟨Bs,Blo,Bhi⟩ Bt Bf Bl) (g 24) w:=yr V 10;obtain⟨q10,Q10,d10,hq10,hO10⟩:=d10;clear V;simp only[za,fLa,fLb,sTa,sTb];simp only[d10]
    go_wp2_with (fail)
    exact⟨rfl,_,rfl,(Below.refl _ _).alloc (Nat.le_refl _) _,q10,Q10,_,rfl,hq10,hO10.grow ((Below.refl _ _).alloc (Nat.le_refl _) _),zI _ _⟩
   simp only[apN,apC]
   refine zO hL (by kernel_rfl) (by kernel_rfl) ?_
   intro g w2 hb hR;simp only[List.length_cons,List.length_nil,Nat.reduceAdd]at hR
   have e0:=yv hR 0
   have e1:=yv hR 1
   have e2:=yv hR 2
   have e3:=yv hR 3
   have e4:=yv hR 4
   have e5:=yv hR 5
   have e6:=yv hR 6
   have e7:=yv hR 7
   have e8:=yv hR 8
   have e9:=yv hR 9
   have e10:(GuR wq.heap.size Bn ⟨Bs,Blo,Bhi⟩ Bt Bf Bl) (g 24) w2:=yr hR 10
   obtain⟨q10,Q10,e10,-,-⟩:=e10
   have e11:(y5 wq.heap.size Bn ⟨Bs,Blo,Bhi⟩ Bt Bf Bl) (g 25) w2:=yr hR 11
   obtain⟨qf,Qf,bf,e11,hSf,hOf,hHf⟩:=e11
   clear hR;simp only[za,fLa,fLb,sTa,sTb]
   simp only[e0,e1,e2,e3,e4,e5,e6,e7,e8,e9,e10,e11]
   clear e0 e1 e2 e3 e4 e5 e6 e7 e8 e9 e10 e11
   replace hL:=hL.more hb (Q4 hSf hOf);clear hSf hOf
   clear hb
   go_wp2_with (first|(refine zz (z:=[.bool false,.bool false,.int .i64 0,.int .i64 0,.bool false,.bool false,.slice none 0 0]) (K:=[]) (R:=R7) (news:=Gu.cells ⟨Bn,⟨Bs,Blo,Bhi⟩,Bt,Bf,qf⟩) HS7.out hL rfl rfl rfl jO Z9 (by decide) rfl (fun _=>⟨⟨bf,0,none⟩,rfl,fun j u hj=>by rw[zH,Nat.zero_add];exact zF hHf j hj⟩) rfl (by simp[Value.oneCell']) (by have:maxLen=9223372036854775807:=rfl;omega) (by omega) ?_;clear hL;intro p4 cap4 R4 w4 hS4 hL;simp only[List.nil_append]at hL)|(with_reducible first|refine lld hL ?_|((first|refine lbx hL ?_|refine lal hL ?_|refine lbs hL ?_);clear hL;intro bl w1 hL)|(refine zd hL ?_;clear hL;intro w1 hL)))
   go_roundw
   case rel=>
    refine⟨k+1,p4,cap4,R4,gl++[⟨Bn,⟨Bs,Blo,Bhi⟩,Bt,Bf,qf⟩],by omega,rfl,by go_num,by simpa using hS4,hL.both fun w h1 h2=>?_⟩
    rw[HNX.out]
    exact h2.append (zX.one (qq.mk' (d:=⟨Bn,⟨Bs,Blo,Bhi⟩,Bt,Bf,Bl⟩) h1))
   case measure=>simp[intOf];omega
  ·obtain rfl:k=ds.length:=by omega
   clear hlt
   go_wp2_with (first|(with_reducible first|refine lld hL ?_|((first|refine lbx hL ?_|refine lal hL ?_|refine lbs hL ?_);clear hL;intro bl w1 hL)|(refine zd hL ?_;clear hL;intro w1 hL)))
   (try simp only[Exit.inBlock,Exit.then]);refine rt1 ?_
   exact⟨⟨p7,ds.length,cap7⟩,gl,R7,rfl,HS7.out,hL⟩
inductive j9:List Sl→List (List Gu)→List zj→Prop where
 | nil:j9 [] [] []
 | cons {s:Sl} {gl:List Gu} {R:List zj} {rs:List Sl} {gf:List (List Gu)} {Rf:List zj} (h:zM 108 7 s.p s.n s.cap (gl.flatMap Gu.cells) R) (hs:j9 rs gf Rf):j9 (s::rs) (gl::gf) (R++Rf)
theorem j9.snoc {rs:List Sl}{gf:List (List Gu)}{Rf:List zj}(h:j9 rs gf Rf) {s:Sl}{gl:List Gu}{R:List zj}(hr:zM 108 7 s.p s.n s.cap (gl.flatMap Gu.cells) R):j9 (rs++[s]) (gf++[gl]) (Rf++R):=by
 induction h with
 | nil=>have:=j9.cons hr .nil;simpa using this
 | cons h hs ih=>rw[List.append_assoc];exact .cons h ih
theorem j9.len {rs:List Sl}{gf:List (List Gu)}{Rf:List zj}(h:j9 rs gf Rf):rs.length=gf.length:=by
 induction h with
 | nil=>rfl
 | cons h hs ih=>simp[ih]
structure ju (w:World) (gf:List (List Gu)) (dss:List (List Res)):Prop where
 len:gf.length=dss.length
 at' : ∀ k,k<dss.length→zX w (gf.getD k []) (dss.getD k [])
theorem ju.nil (w:World):ju w [] []:=⟨rfl,fun k hk=>absurd hk (Nat.not_lt_zero k)⟩
theorem ju.snoc {w:World}{gf:List (List Gu)}{dss:List (List Res)}(h:ju w gf dss) {gl:List Gu}{ds:List Res}(h' : zX w gl ds):ju w (gf++[gl]) (dss++[ds]):=by
 refine⟨by simp[h.len],fun k hk=>?_⟩
 rw[List.length_append]at hk
 rcases Nat.lt_or_ge k dss.length with h1|h1
 ·rw[Jd (by rw[h.len];exact h1),Jd h1]
  exact h.at' k h1
 ·have hk' : k<dss.length+1:=by simpa using hk
  obtain rfl:k=dss.length:=by omega
  rw[y4 (by rw[h.len];exact Nat.le_refl _),y4 (Nat.le_refl _),h.len,Nat.sub_self]
  exact h'
structure Ge (x:Pv) (gv:List Gu) (gf:List (List Gu)) (rs:List Sl) (Rv Rh Rf:List zj):Prop where
 vars:zM 108 7 x.vars.p x.vars.n x.vars.cap (gv.flatMap Gu.cells) Rv
 heads:zM 51 1 x.fields.p x.fields.n x.fields.cap (rs.flatMap Sl.row) Rh
 rows:j9 rs gf Rf
abbrev zS (gv:List Gu) (gf:List (List Gu)) (vs:List Res) (fs:List (List Res)):zw:=fun w=>zX w gv vs∧ju w gf fs
theorem Loc.since {w0 w w1:World}{R:List zj}{D:List zw}(hb:Below w0.heap.size w0 w) (h:Loc w w1 R D):Loc w0 w1 R D:=by
 have h1:=((Loc.start w0).grow hb).gave h
 rwa [List.nil_append,List.append_nil]at h1
def Z1 (wq:World) (ds:List Res):Value→World→Prop:=fun v w=>∃ (r:Sl) (gl:List Gu) (R:List zj),v=r.v∧zM 108 7 r.p r.n r.cap (gl.flatMap Gu.cells) R∧Loc wq w R [fun w=>zX w gl ds]
theorem Z1.stable {wq:World}{ds:List Res}:∀ v w w',Below w.heap.size w w'→Z1 wq ds v w→Z1 wq ds v w':=fun _ _ _ hb ⟨r,gl,R,h1,h2,h3⟩=>⟨r,gl,R,h1,h2,h3.grow hb⟩
def Ql (wq:World) (ds:List Res):Value→World→Prop:=fun v w=>∃ (r:Sl) (gl:List Gu) (R:List zj) (bf:Nat),v=.slice (some ⟨bf,0,none⟩) 1 1∧zM 108 7 r.p r.n r.cap (gl.flatMap Gu.cells) R∧Loc wq w R [fun w=>zX w gl ds]∧w.heap[bf]? = some (.cells (Sl.row r).toArray 51 (0,0))
theorem Ql.stable {wq:World}{ds:List Res}:∀ v w w',Below w.heap.size w w'→Ql wq ds v w→Ql wq ds v w':=fun _ _ _ hb ⟨r,gl,R,bf,h1,h2,h3,h4⟩=>⟨r,gl,R,bf,h1,h2,h3.grow hb,by rw[hb.block _ (zL h4)];exact h4⟩
theorem Z2 {α:Type}(A F H R:List α):(A++((F++R)++H)).Perm ((A++(F++H))++R):=by
 rw[List.append_assoc A,List.append_assoc F H R,List.append_assoc F R H]
 exact List.Perm.append_left A (List.Perm.append_left F List.perm_append_comm)
structure yE (d:Pd):Prop where
 vars:d.vars.length≤1000
 fields:d.fields.length≤1000
 rows:∀ k,k<d.fields.length→(d.row k).length≤1000
 sites:∀ k,k<d.vars.length→(d.var k).l.length≤1000
 rsites:∀ k j,k<d.fields.length→j<(d.row k).length→(d.field k j).l.length≤1000
structure YO (d e:Pd):Prop where
 vars:d.vars.length=e.vars.length
 fields:d.fields.length=e.fields.length
 rows:∀ k,k<d.fields.length→(d.row k).length=(e.row k).length
def qG (f:zq→zq→zq) (d e:Pd) (k:Nat):List (List Res):=(List.range k).map fun i=>qF f (d.row i) (e.row i)
theorem YP (f:zq→zq→zq) (d e:Pd) (k:Nat):qG f d e (k+1)=qG f d e k++[qF f (d.row k) (e.row k)]:=by
 unfold qG
 rw[List.range_succ,List.map_append]
 rfl
def qb (f:zq→zq→zq) (d e:Pd):Pd:=⟨false,qF f d.vars e.vars,qG f d e d.fields.length⟩
theorem XC (K:FuncId) (f:zq→zq→zq) (he:∀ args w,(callFunc K args).run Tryz.prog w=.ok (.enter K args) w)
  (hf:∀ (s t:zq) (w:World),Calls Tryz.prog K #[s.v,t.v] w fun e w'=>e=.returned (f s t).v∧Below w.heap.size w w')
  (x y:Pv) (d e:Pd) (w:World) (hx:zN w x d) (hy:zN w y e) (hdn:d.none=false) (hen:e.none=false) (hd:yE d) (hfe:yE e) (hl:YO d e):
  Calls Tryz.prog 59 #[x.v,y.v,.func (.func K) #[] #[]] w fun q w'=>∃ (r:Pv) (gv:List Gu) (gf:List (List Gu)) (rs:List Sl) (Rv Rh Rf:List zj),q=.returned r.v∧r.none=false∧Ge r gv gf rs Rv Rh Rf∧Loc w w' (Rv++(Rf++Rh)) [zS gv gf (qb f d e).vars (qb f d e).fields]:=by
 have HV:=Lib.hid (fun (bd:Nat) w' (hb:Below w.heap.size w w') hrd=>zaf K f he hf x.vars y.vars d.vars e.vars bd w' hrd (hx.vars.grow hb) (hy.vars.grow hb) hl.vars hd.vars (fun k hk=>⟨hd.sites k hk,hfe.sites k (by rw[← hl.vars];exact hk)⟩))
 obtain⟨rx,hrx,hrx2⟩:=hx.fields.ex
 obtain⟨ry,hry,hry2⟩:=hy.fields.ex
 have hnx:=hx.fields.n
 have hny:=hy.fields.n
 rw[hnx]at hrx hrx2
 rw[hny]at hry hry2
 have HE:=Lib.hid (fun k (hk:k<d.fields.length) (bd:Nat) w' (hb:Below w.heap.size w w') hrd=>zaf K f he hf (rx k) (ry k) (d.row k) (e.row k) bd w' hrd ((hrx2 k hk).grow hb) ((hry2 k (by rw[← hl.fields];exact hk)).grow hb) (hl.rows k hk) (hd.rows k hk) (fun j hj=>⟨hd.rsites k j hk hj,hfe.rsites k j (by rw[← hl.fields];exact hk) (by rw[← hl.rows k hk];exact hj)⟩))
 obtain⟨bx,ox,hpx,hcx⟩:=(QG hrx).ex
 obtain⟨by',oy,hpy,hcy⟩:=(QG hry).ex
 have hxn:=hx.e
 have hyn:=hy.e
 have hff:=hl.fields
 have h1000:=hd.fields
 have HRAW:=Lib.hid (fun k=>YP f d e k)
 have HRV:=Lib.hid (show (qb f d e).vars=qF f d.vars e.vars from rfl)
 have HRF:=Lib.hid (show (qb f d e).fields=qG f d e d.fields.length from rfl)
 have HR0:=Lib.hid (show qG f d e 0=[] from rfl)
 obtain⟨xn,⟨xp,xvn,xc⟩,⟨xfp,xfn,xfc⟩⟩:=x
 obtain⟨yn,⟨yp,yvn,yc⟩,⟨yfp,yfn,yfc⟩⟩:=y
 dsimp only at hnx hny hpx hcx hpy hcy hxn hyn HV
 rw[hdn]at hxn
 rw[hen]at hyn
 subst hxn hyn hnx hny
 generalize (qb f d e).vars=bvs at HRV ⊢
 generalize (qb f d e).fields=bfs at HRF ⊢
 have HPX:=Lib.hid hpx
 have HPY:=Lib.hid hpy
 have HCX:=Lib.hid hcx
 have HCY:=Lib.hid hcy
 have HFF:=Lib.hid hff
 have h1001:e.fields.length≤1000:=by omega
 clear hx hy hdn hen hd hfe hl hrx hrx2 hry hry2 hpx hcx hpy hcy hff
 have hL:=Loc.start w
 go_enter Tryz.func59,Tryz.ntmps59
 go_step
 go_step
 go_step
 ((with_reducible refine lbx hL ?_);clear hL;intro b3 w1 hL)
 ((with_reducible refine lbx hL ?_);clear hL;intro b4 w1 hL)
 ((with_reducible refine lbx hL ?_);clear hL;intro b5 w1 hL)
 ((with_reducible refine lal hL ?_);clear hL;intro b6 w1 hL)
 go_upto_region 9 with(first|(with_reducible first|refine lld hL ?_|((first|refine lbx hL ?_|refine lal hL ?_|refine lbs hL ?_);clear hL;intro bl w1 hL)|(refine zd hL ?_;clear hL;intro w1 hL))|(go_at_call 105;refine(HV.out b5 _ hL.below (hL.readsG (b:=b5) (Tv:=117) (off:=0) (v:=.func (.func K) #[] #[]) cIn (ze.cell zet rfl))).mono ?_;rintro q w3 ⟨⟨vp,vn,vc⟩,gv,Rv,rfl,hSv,hLv⟩;replace hL:=hL.gave hLv;simp only[List.cons_append,List.nil_append]at hL;clear hLv;dsimp only))
 have HSV:=Lib.hid hSv
 clear hSv HV
 go_wp2_with (first|(with_reducible first|refine lld hL ?_|((first|refine lbx hL ?_|refine lal hL ?_|refine lbs hL ?_);clear hL;intro bl w1 hL)|(refine zd hL ?_;clear hL;intro w1 hL)))
 go_loopw [39] (fun c wr=>∃ (k:Nat) (hp:Option Addr) (hcap:Nat) (rs:List Sl) (gf:List (List Gu)) (Rh Rf:List zj),k≤d.fields.length∧c=.int .i64 k∧zM 51 1 hp k hcap (rs.flatMap Sl.row) Rh∧j9 rs gf Rf∧Loc w wr ((bl,54,[.bool false,.slice vp vn vc,.slice hp k hcap])::(b6,54,[.bool false,.slice none 0 0,.slice none 0 0])::(b5,117,[.func (.func K) #[] #[]])::(b4,54,[.bool false,.slice yp yvn yc,.slice yfp e.fields.length yfc])::(b3,54,[.bool false,.slice xp xvn xc,.slice xfp d.fields.length xfc])::(Rv++(Rf++Rh))) [fun w=>ju w gf (qG f d e k),fun w=>zX w gv (qF f d.vars e.vars)]) (fun c _=>d.fields.length - (intOf c).toNat)
 case atStart=>exact⟨0,none,0,[],[],[],[],Nat.zero_le _,rfl,zM.nil,.nil,(hL.conv (by simp)).pure (fun w=>by rw[HR0.out];exact ju.nil w)⟩
 case round=>
  obtain⟨k,hp,hcap,rs,gf,Rh,Rf,hk,rfl,hSh,hGf,hL⟩:=hrel
  have HSH:=Lib.hid hSh
  have HGF:=Lib.hid hGf
  clear hSh hGf
  by_cases hlt:k<d.fields.length
  ·obtain rfl:=HPX.out (by omega)
   obtain rfl:=HPY.out (by have:=HFF.out;omega)
   clear HPX HPY
   have hr1:=HCX.out k hlt
   have hr2:=HCY.out k (by have:=HFF.out;omega)
   rw[Nat.mul_one]at hr1 hr2
   have hlt2:k<e.fields.length:=by have:=HFF.out;omega
   have hek:=HE.out k hlt
   have hnx:=HRAW.out k
   generalize rx k=s at hr1 hek
   generalize ry k=t at hr2 hek
   generalize qF f (d.row k) (e.row k)=rowk at hek hnx
   obtain⟨sp,sc,scap⟩:=s
   obtain⟨tp,tc,tcap⟩:=t
   dsimp only[Sl.v]at hr1 hr2 hek
   have HR1:=Lib.hid hr1
   have HR2:=Lib.hid hr2
   have HEK:=Lib.hid hek
   have HNX:=Lib.hid hnx
   clear hr1 hr2 hek hnx
   obtain⟨wq,hwq⟩:∃ x,x=wr:=⟨_,rfl⟩
   subst hwq
   go_upto_region 12 with(first|(with_reducible first|refine lld hL ?_|((first|refine lbx hL ?_|refine lal hL ?_|refine lbs hL ?_);clear hL;intro bl w1 hL)|(refine zd hL ?_;clear hL;intro w1 hL)))
   refine zf [42,43,44,45,46,47,48,49,50,51,52,53,54,55,56] ?_
   refine dv0 ?_
   refine dv1 0 ?_
   refine dv0 ?_
   refine dv1 2 ?_
   refine dv0 ?_
   refine dv2 3 4 ?_
   apply zb
   ·intro g w hb V;replace hL:=hL.grow hb;have d5:=yv V 5;clear V;simp only[za,fLa,fLb,sTa,sTb];simp only[d5]
    refine zo HR1.out hL rfl rfl ?_
    exact cY
   simp only[apN,apC]
   refine dv0 ?_
   refine dv1 7 ?_
   refine dv0 ?_
   refine dv2 8 9 ?_
   apply zb
   ·intro g w hb V;replace hL:=hL.grow hb;have d10:=yv V 10;clear V;simp only[za,fLa,fLb,sTa,sTb];simp only[d10]
    refine zo HR2.out hL rfl rfl ?_
    exact cY
   simp only[apN,apC]
   refine dv0 ?_
   refine zh (Z1 wq rowk) Z1.stable ?_ ?_
   ·intro g w hb V;replace hL:=hL.grow hb;have d6:=yv V 6;have d11:=yv V 11;have d12:=yv V 12;clear V;simp only[za,fLa,fLb,sTa,sTb];simp only[d6,d11,d12]
    go_wp2_with (go_at_call 105;refine(HEK.out b5 _ hL.below (hL.readsG (b:=b5) (Tv:=117) (off:=0) (v:=.func (.func K) #[] #[]) cIn (ze.cell zet rfl))).mono ?_;rintro q w3 ⟨r,gl,R,rfl,hr,hl3⟩;dsimp only)
    exact⟨rfl,_,rfl,hl3.below,r,gl,R,rfl,hr,Loc.since hb hl3⟩
   simp only[apN,apC]
   refine zh (Ql wq rowk) Ql.stable ?_ ?_
   ·intro g w hb V;replace hL:=hL.grow hb;have d13:(Z1 wq rowk) (g 55) w:=yr V 13;obtain⟨q13,g13,Q13,d13,hq13,hO13⟩:=d13;clear V;simp only[za,fLa,fLb,sTa,sTb];simp only[d13]
    go_wp2_with (fail)
    exact⟨rfl,_,rfl,(Below.refl _ _).alloc (Nat.le_refl _) _,q13,g13,Q13,_,rfl,hq13,hO13.grow ((Below.refl _ _).alloc (Nat.le_refl _) _),zI _ _⟩
   simp only[apN,apC]
   refine zO hL (by kernel_rfl) (by kernel_rfl) ?_
   intro g w2 hb hR;simp only[List.length_cons,List.length_nil,Nat.reduceAdd]at hR
   have e0:=yv hR 0
   have e1:=yv hR 1
   have e2:=yv hR 2
   have e3:=yv hR 3
   have e4:=yv hR 4
   have e5:=yv hR 5
   have e6:=yv hR 6
   have e7:=yv hR 7
   have e8:=yv hR 8
   have e9:=yv hR 9
   have e10:=yv hR 10
   have e11:=yv hR 11
   have e12:=yv hR 12
   have e13:(Z1 wq rowk) (g 55) w2:=yr hR 13
   obtain⟨q13,g13,Q13,e13,-,-⟩:=e13
   have e14:(Ql wq rowk) (g 56) w2:=yr hR 14
   obtain⟨qf,gq,Qf,bf,e14,hSf,hOf,hHf⟩:=e14
   clear hR;simp only[za,fLa,fLb,sTa,sTb]
   simp only[e0,e1,e2,e3,e4,e5,e6,e7,e8,e9,e10,e11,e12,e13,e14]
   clear e0 e1 e2 e3 e4 e5 e6 e7 e8 e9 e10 e11 e12 e13 e14
   replace hL:=hL.gave hOf;simp only[List.cons_append,List.nil_append]at hL;clear hOf
   clear hb
   replace hL:=hL.perm ((((((Z2 Rv Rf Rh Qf).cons _).cons _).cons _).cons _).cons _)
   go_wp2_with (first|(refine zz (z:=[.slice none 0 0]) (K:=(bl,_,_)::(b6,_,_)::(b5,_,_)::(b4,_,_)::(b3,_,_)::(Rv++(Rf++Qf))) (R:=Rh) (news:=Sl.row qf) HSH.out hL (by simp only[List.cons_append,List.append_assoc];rfl) rfl rfl XJ zeG (by decide) rfl (fun _=>⟨⟨bf,0,none⟩,rfl,fun j u hj=>by rw[zH,Nat.zero_add];exact zF hHf j hj⟩) rfl (by simp[Value.oneCell']) (by have:maxLen=9223372036854775807:=rfl;omega) (by omega) ?_;clear hL;intro p4 cap4 R4 w4 hS4 hL;simp only[List.cons_append,List.append_assoc]at hL)|(with_reducible first|refine lld hL ?_|((first|refine lbx hL ?_|refine lal hL ?_|refine lbs hL ?_);clear hL;intro bl w1 hL)|(refine zd hL ?_;clear hL;intro w1 hL)))
   go_roundw
   case rel=>
    refine⟨k+1,p4,cap4,rs++[qf],gf++[gq],R4,Rf++Qf,by omega,by go_num,by simpa using hS4,HGF.out.snoc hSf,(hL.conv (by simp only[List.append_assoc])).both fun w h1 h2=>?_⟩
    rw[HNX.out]
    exact h2.snoc h1
   case measure=>simp[intOf];omega
  ·obtain rfl:k=d.fields.length:=by omega
   clear hlt
   go_wp2_with (first|(with_reducible first|refine lld hL ?_|((first|refine lbx hL ?_|refine lal hL ?_|refine lbs hL ?_);clear hL;intro bl w1 hL)|(refine zd hL ?_;clear hL;intro w1 hL)))
   (try simp only[Exit.inBlock,Exit.then]);refine rt1 ?_
   exact⟨⟨false,⟨vp,vn,vc⟩,⟨hp,d.fields.length,hcap⟩⟩,gv,gf,rs,Rv,Rh,Rf,rfl,rfl,⟨HSV.out,HSH.out,HGF.out⟩,(hL.both (U:=zS gv gf bvs bfs) fun w h1 h2=>⟨by rw[HRV.out];exact h2,by rw[HRF.out];exact h1⟩).drop (List.sublist_append_right [_,_,_,_,_] _) (fun _ h=>h)⟩
theorem j9.is {B:Nat}{w:World}{rs:List Sl}{gf:List (List Gu)}{Rf:List zj}(h:j9 rs gf Rf):Own B w Rf→∀ fs:List (List Res),ju w gf fs→∀ k,k<rs.length→jW w (rs.getD k zn) (fs.getD k []):=by
 induction h with
 | nil=>intro _ fs _ k hk;exact absurd hk (Nat.not_lt_zero k)
 | @cons s gl R rs gf Rf h hs ih=>
  intro ho fs hd k hk
  cases fs with
  | nil=>exact absurd hd.len (by simp)
  | cons f fs=>
   cases k with
   | zero=>exact(hd.at' 0 (by simp)).row h (ho.sub (List.sublist_append_left _ _))
   | succ k=>
    exact ih (ho.sub (List.sublist_append_right _ _)) fs ⟨by simpa using hd.len,fun j hj=>by simpa using hd.at' (j+1) (by simpa using hj)⟩ k (by simpa using hk)
theorem Ge.is {B:Nat}{w:World}{x:Pv}{gv:List Gu}{gf:List (List Gu)}{rs:List Sl}{Rv Rh Rf:List zj}{d:Pd}(h:Ge x gv gf rs Rv Rh Rf) (ho:Own B w (Rv++(Rf++Rh))) (hd:zS gv gf d.vars d.fields w) (he:x.none=d.none) (hm:d.vars.length+d.fields.length≤9223372036854775807):zN w x d:=by
 obtain⟨h1,h2⟩:=hd
 have hv:=h1.row h.vars (ho.sub (List.sublist_append_left _ _))
 obtain⟨hn,hl⟩:=h.heads.listC (f:=Sl.row) (fun _=>rfl) zn (by decide) (ho.sub ((List.sublist_append_right _ _).trans (List.sublist_append_right _ _)))
 have hr:=h.rows.is (ho.sub ((List.sublist_append_left _ _).trans (List.sublist_append_right _ _))) d.fields h2
 have hnf:x.fields.n=d.fields.length:=by rw[hn,h.rows.len,h2.len]
 refine⟨he,hv,⟨hnf,h.heads.max,fun k=>rs.getD k zn,hl,fun k hk=>hr k (by rw[← hn];exact hk)⟩,?_⟩
 have hnv:x.vars.n=d.vars.length:=hv.n
 omega
def QX (w w' : World) (r:Pv) (d:Pd):Prop:=∃ (gv:List Gu) (gf:List (List Gu)) (rs:List Sl) (Rv Rh Rf:List zj),r.none=d.none∧Ge r gv gf rs Rv Rh Rf∧Loc w w' (Rv++(Rf++Rh)) [zS gv gf d.vars d.fields]
theorem QX.below {w w' : World}{r:Pv}{d:Pd}(h:QX w w' r d):Below w.heap.size w w':=by
 obtain⟨_,_,_,_,_,_,_,_,h⟩:=h;exact h.below
theorem QX.grow {w w' w2:World}{r:Pv}{d:Pd}(h:QX w w' r d) (hb:Below w'.heap.size w' w2):QX w w2 r d:=by
 obtain⟨gv,gf,rs,Rv,Rh,Rf,h1,h2,h3⟩:=h;exact⟨gv,gf,rs,Rv,Rh,Rf,h1,h2,h3.grow hb⟩
theorem QX.since {w0 w w' : World}{r:Pv}{d:Pd}(hb:Below w0.heap.size w0 w) (h:QX w w' r d):QX w0 w' r d:=by
 obtain⟨gv,gf,rs,Rv,Rh,Rf,h1,h2,h3⟩:=h;exact⟨gv,gf,rs,Rv,Rh,Rf,h1,h2,Loc.since hb h3⟩
theorem QX.is {w w' : World}{r:Pv}{d:Pd}(h:QX w w' r d) (hm:d.vars.length+d.fields.length≤9223372036854775807):zN w' r d:=by
 obtain⟨gv,gf,rs,Rv,Rh,Rf,h1,h2,h3⟩:=h
 exact h2.is h3.own (h3.get List.mem_cons_self) h1 hm
theorem Loc.gotP {w0 w w1:World}{L:List zj}{D:List zw}{r:Pv}{d:Pd}(h:Loc w0 w L D) (g:QX w w1 r d) (hm:d.vars.length+d.fields.length≤9223372036854775807):Loc w0 w1 L ((fun w=>zN w r d)::D):=by
 obtain⟨gv,gf,rs,Rv,Rh,Rf,h1,h2,h3⟩:=g
 have h4:=h.gave h3
 refine h4.facts fun w' hr ht=>h2.is (B:=w.heap.size) ⟨h3.nodup,fun e he=>⟨h3.ids e he,hr e he⟩⟩ ht h1 hm
theorem XD (w:World):Calls Tryz.prog 101 #[] w fun q w'=>q=.returned (Pv.v ⟨true,zn,zn⟩)∧Below w.heap.size w w':=by
 have hL:=Loc.start w
 go_enter Tryz.func101,Tryz.ntmps101
 go_wp2_with (first|(with_reducible first|refine lld hL ?_|((first|refine lbx hL ?_|refine lal hL ?_|refine lbs hL ?_);clear hL;intro bl w1 hL)|(refine zd hL ?_;clear hL;intro w1 hL)))
 (try simp only[Exit.inBlock,Exit.then]);refine rt1 ?_
 exact⟨rfl,hL.below⟩
theorem QX.none {w w' : World}(hb:Below w.heap.size w w'):QX w w' ⟨true,zn,zn⟩ zQ:=
 ⟨[],[],[],[],[],[],rfl,⟨zM.nil,zM.nil,.nil⟩,((Loc.start w).grow hb).pure (fun w=>⟨zX.nil w,ju.nil w⟩)⟩
theorem YO.self (d:Pd):YO d d:=⟨rfl,rfl,fun _ _=>rfl⟩
def yl (f:zq→zq→zq) (d e:Pd):Pd:=if d.none=true then (if e.none=true then zQ else qb both e e) else if e.none=true then qb both d d else qb f d e
theorem Vv (x:Pv) (d:Pd) (w:World) (hx:zN w x d) (hd:yE d) (hn:d.none=false):
  Calls Tryz.prog 102 #[x.v] w fun q w'=>∃ r:Pv,q=.returned r.v∧QX w w' r (qb both d d):=by
 have HB:=Lib.hid (fun w' (hb:Below w.heap.size w w')=>XC 60 both KU Js x x d d w' (hx.grow hb) (hx.grow hb) hn hn hd hd (YO.self d))
 clear hx hd hn
 obtain⟨xn,⟨xp,xvn,xc⟩,⟨xfp,xfn,xfc⟩⟩:=x
 have hL:=Loc.start w
 go_enter Tryz.func102,Tryz.ntmps102
 go_wp2_with (first|(with_reducible first|refine lld hL ?_|((first|refine lbx hL ?_|refine lal hL ?_|refine lbs hL ?_);clear hL;intro bl w1 hL)|(refine zd hL ?_;clear hL;intro w1 hL))|(go_at_call 59;refine(HB.out _ hL.below).mono ?_;rintro q w3 ⟨⟨rn,⟨vp,vn,vc⟩,⟨fp,fn,fc⟩⟩,gv,gf,rs,Rv,Rh,Rf,rfl,hrn,hO,hl3⟩;replace hL:=hL.gave hl3;simp only[List.cons_append,List.nil_append]at hL;clear hl3;dsimp only))
 (try simp only[Exit.inBlock,Exit.then]);refine rt1 ?_
 exact⟨⟨rn,⟨vp,vn,vc⟩,⟨fp,fn,fc⟩⟩,rfl,gv,gf,rs,Rv,Rh,Rf,hrn,hO,hL.drop (List.sublist_append_right [_,_] _) (fun _ h=>h)⟩
theorem zde (K:FuncId) (f:zq→zq→zq) (he:∀ args w,(callFunc K args).run Tryz.prog w=.ok (.enter K args) w)
  (hf:∀ (s t:zq) (w:World),Calls Tryz.prog K #[s.v,t.v] w fun e w'=>e=.returned (f s t).v∧Below w.heap.size w w')
  (x y:Pv) (d e:Pd) (w:World) (hx:zN w x d) (hy:zN w y e) (hd:yE d) (hfe:yE e) (hl:d.none=false→e.none=false→YO d e):
  Calls Tryz.prog 59 #[x.v,y.v,.func (.func K) #[] #[]] w fun q w'=>∃ r:Pv,q=.returned r.v∧QX w w' r (yl f d e):=by
 have hxe:=hx.e
 have hye:=hy.e
 cases hdn:d.none with
 | false=>
  cases hen:e.none with
  | false=>
   have hq:yl f d e=qb f d e:=by simp[yl,hdn,hen]
   rw[hq]
   refine(XC K f he hf x y d e w hx hy hdn hen hd hfe (hl hdn hen)).mono ?_
   rintro q w' ⟨r,gv,gf,rs,Rv,Rh,Rf,h1,h2,h3,h4⟩
   exact⟨r,h1,gv,gf,rs,Rv,Rh,Rf,h2,h3,h4⟩
  | true=>
   have hq:yl f d e=qb both d d:=by simp[yl,hdn,hen]
   rw[hq]
   have HO:=Lib.hid (fun w' (hb:Below w.heap.size w w')=>Vv x d w' (hx.grow hb) hd hdn)
   rw[hdn]at hxe
   rw[hen]at hye
   clear hx hy hd hfe hl hdn hen hq
   obtain⟨xn,⟨xp,xvn,xc⟩,⟨xfp,xfn,xfc⟩⟩:=x
   obtain⟨yn,⟨yp,yvn,yc⟩,⟨yfp,yfn,yfc⟩⟩:=y
   dsimp only at hxe hye
   subst hxe hye
   have hL:=Loc.start w
   go_enter Tryz.func59,Tryz.ntmps59
   go_wp2_with (first|(with_reducible first|refine lld hL ?_|((first|refine lbx hL ?_|refine lal hL ?_|refine lbs hL ?_);clear hL;intro bl w1 hL)|(refine zd hL ?_;clear hL;intro w1 hL))|(go_at_call 102;refine(HO.out _ hL.below).mono ?_;rintro q w3 ⟨⟨rn,⟨vp,vn,vc⟩,⟨fp,fn,fc⟩⟩,rfl,gv,gf,rs,Rv,Rh,Rf,hrn,hO,hl3⟩;replace hL:=hL.gave hl3;simp only[List.cons_append,List.nil_append]at hL;clear hl3;dsimp only))
   (try simp only[Exit.inBlock,Exit.then]);refine rt1 ?_
   exact⟨⟨rn,⟨vp,vn,vc⟩,⟨fp,fn,fc⟩⟩,rfl,gv,gf,rs,Rv,Rh,Rf,hrn,hO,hL.drop (List.sublist_append_right [_,_,_,_] _) (fun _ h=>h)⟩
 | true=>
  cases hen:e.none with
  | false=>
   have hq:yl f d e=qb both e e:=by simp[yl,hdn,hen]
   rw[hq]
   have HO:=Lib.hid (fun w' (hb:Below w.heap.size w w')=>Vv y e w' (hy.grow hb) hfe hen)
   rw[hdn]at hxe
   rw[hen]at hye
   clear hx hy hd hfe hl hdn hen hq
   obtain⟨xn,⟨xp,xvn,xc⟩,⟨xfp,xfn,xfc⟩⟩:=x
   obtain⟨yn,⟨yp,yvn,yc⟩,⟨yfp,yfn,yfc⟩⟩:=y
   dsimp only at hxe hye
   subst hxe hye
   have hL:=Loc.start w
   go_enter Tryz.func59,Tryz.ntmps59
   go_wp2_with (first|(with_reducible first|refine lld hL ?_|((first|refine lbx hL ?_|refine lal hL ?_|refine lbs hL ?_);clear hL;intro bl w1 hL)|(refine zd hL ?_;clear hL;intro w1 hL))|(go_at_call 102;refine(HO.out _ hL.below).mono ?_;rintro q w3 ⟨⟨rn,⟨vp,vn,vc⟩,⟨fp,fn,fc⟩⟩,rfl,gv,gf,rs,Rv,Rh,Rf,hrn,hO,hl3⟩;replace hL:=hL.gave hl3;simp only[List.cons_append,List.nil_append]at hL;clear hl3;dsimp only))
   (try simp only[Exit.inBlock,Exit.then]);refine rt1 ?_
   exact⟨⟨rn,⟨vp,vn,vc⟩,⟨fp,fn,fc⟩⟩,rfl,gv,gf,rs,Rv,Rh,Rf,hrn,hO,hL.drop (List.sublist_append_right [_,_,_,_] _) (fun _ h=>h)⟩
  | true=>
   have hq:yl f d e=zQ:=by simp[yl,hdn,hen]
   rw[hq]
   rw[hdn]at hxe
   rw[hen]at hye
   clear hx hy hd hfe hl hdn hen hq
   obtain⟨xn,⟨xp,xvn,xc⟩,⟨xfp,xfn,xfc⟩⟩:=x
   obtain⟨yn,⟨yp,yvn,yc⟩,⟨yfp,yfn,yfc⟩⟩:=y
   dsimp only at hxe hye
   subst hxe hye
   have hL:=Loc.start w
   go_enter Tryz.func59,Tryz.ntmps59
   go_wp2_with (first|(with_reducible first|refine lld hL ?_|((first|refine lbx hL ?_|refine lal hL ?_|refine lbs hL ?_);clear hL;intro bl w1 hL)|(refine zd hL ?_;clear hL;intro w1 hL))|(go_at_call 101;refine(XD _).mono ?_;rintro e w1 ⟨rfl,hb⟩;replace hL:=hL.grow hb;clear hb;dsimp only))
   (try simp only[Exit.inBlock,Exit.then]);refine rt1 ?_
   exact⟨_,rfl,QX.none hL.below⟩
set_option maxHeartbeats 1600000
theorem Y4 {α:Type}{f:α→Int}{l:List α}(h:jI (l.map f)=0):∀ x∈l,f x=0:=by
 induction l with
 | nil=>intro x hx;cases hx
 | cons a l ih=>
  intro x hx
  have h1:f a=0:=by
   by_cases h2:f a=0
   ·exact h2
   ·simp[jI,h2]at h
  have h3:jI (l.map f)=0:=by simpa [jI,h1] using h
  rcases List.mem_cons.1 hx with rfl|hx
  ·exact h1
  ·exact ih h3 x hx
structure jY (d:Res):Prop where
 span:zm d.span=0
 ins:inS d.l
 asc:ZL d.l
 le:d.l.length≤60
theorem jY.of {p:Pg}{is:Nat→Ins}{d:Res}(h:jX p is d=0) (hp:zl p is=0):jY d:=by
 have h1:yV (d.gu ⟨none,d.l.length,0⟩) d.l:=yV.of h hp rfl
 exact⟨h1.span,h1.ins,h1.asc,h1.le⟩
structure qk (p:Pg) (d:Pd):Prop where
 vars:(d.vars.length:Int)=p.vars
 fields:d.fields.length=p.n
 rows:∀ k,k<d.fields.length→((d.row k).length:Int)=p.fields
 vg:∀ k,k<d.vars.length→jY (d.var k)
 fg:∀ k j,k<d.fields.length→j<(d.row k).length→jY (d.field k j)
theorem qX {α:Type}{l:List α}{d:α}{k:Nat}(h:k<l.length):l.getD k d∈l:=by
 rw[List.getD_eq_getElem?_getD,List.getElem?_eq_getElem h]
 exact List.getElem_mem h
theorem qk.of {p:Pg}{is:Nat→Ins}{d:Pd}(h:qd p is d=0) (hp:zl p is=0) (hn:d.none=false):qk p d:=by
 obtain⟨dn,vs,fs⟩:=d
 dsimp only at hn
 subst hn
 rw[JC]at h
 split at h
 ·cases h
 rename_i h1
 split at h
 ·rename_i h2;exact absurd h h2
 rename_i h2
 have h3:YK p is (vs::fs)=0:=by omega
 rw[Jq]at h3
 have h4:=Y4 h3
 have h5:ZF p ⟨false,vs,fs⟩=false:=by simpa using h1
 unfold ZF at h5
 simp only[Bool.or_eq_false_iff,bne_eq_false_iff_eq]at h5
 obtain⟨⟨h6,h7⟩,h8⟩:=h5
 have h9:∀ k,k<fs.length→((fs.getD k []).length:Int)=p.fields:=fun k hk=>by
  by_cases hq:((fs.getD k []).length:Int)=p.fields
  ·exact hq
  ·have:=qY (q:=fun i=>((Pd.row ⟨false,vs,fs⟩ i).length:Int) != p.fields) hk (by simpa using hq)
   rw[this]at h8
   cases h8
 refine⟨h6,by dsimp only;omega,h9,fun k hk=>jY.of (h4 _ ?_) hp,fun k j hk hj=>jY.of (h4 _ ?_) hp⟩
 ·exact List.mem_flatten.2 ⟨vs,List.mem_cons_self,qX hk⟩
 ·exact List.mem_flatten.2 ⟨fs.getD k [],List.mem_cons_of_mem _ (qX hk),qX hj⟩
theorem qk.none {p:Pg}{is:Nat→Ins}{d:Pd}(h:qd p is d=0) (hn:d.none=true):d=zQ:=by
 obtain⟨dn,vs,fs⟩:=d
 dsimp only at hn
 subst hn
 rw[zbY]at h
 split at h
 ·cases h
 rename_i h1
 obtain rfl:vs=[]:=List.eq_nil_of_length_eq_zero (by omega)
 obtain rfl:fs=[]:=List.eq_nil_of_length_eq_zero (by omega)
 rfl
theorem yE.of {p:Pg}{d:Pd}(h:qk p d) (hs:UU p):yE d:=by
 have h1:=hs.v2
 have h2:=hs.n1
 have h3:=hs.f2
 refine⟨by have:=h.vars;omega,by have:=h.fields;omega,fun k hk=>by have:=h.rows k hk;omega,fun k hk=>by have:=(h.vg k hk).le;omega,fun k j hk hj=>by have:=(h.fg k j hk hj).le;omega⟩
theorem yE.none:yE zQ:=⟨by decide,by decide,fun k hk=>absurd hk (Nat.not_lt_zero k),fun k hk=>absurd hk (Nat.not_lt_zero k),fun k j hk=>absurd hk (Nat.not_lt_zero k)⟩
theorem YO.of {p:Pg}{d e:Pd}(h:qk p d) (h' : qk p e):YO d e:=by
 refine⟨by have:=h.vars;have:=h'.vars;omega,by rw[h.fields,h'.fields],fun k hk=>?_⟩
 have h1:=h.rows k hk
 have h2:=h'.rows k (by rw[h'.fields,← h.fields];exact hk)
 omega
theorem zdf {s:zq}(h:zm s=0):both s s=s:=by
 obtain⟨_,_,h3⟩:=zu h
 obtain⟨n,lo,hi⟩:=s
 cases n with
 | true=>
  obtain⟨rfl,rfl⟩:=h3 rfl
  rfl
 | false=>simp[both,min2,max2]
theorem zag {l:List Int}(h:ZL l):y7 l l=l:=by
 obtain⟨h1,h2⟩:=QJ l l
 exact KJ h1 h (fun x=>by rw[h2];simp)
theorem zbw {d:Res}(h:jY d):qB both d d=d:=by
 obtain⟨dn,ds,dt,df,dl⟩:=d
 simp only[qB,zdf h.span,zag h.asc,Bool.or_self]
theorem Ku {ds:List Res}(h:∀ k,k<ds.length→jY (ds.getD k zy)):qF both ds ds=ds:=by
 apply List.ext_getElem
 ·simp[yi]
 ·intro k h1 h2
  have h3:=zbw (h k h2)
  simp only[yi,List.getElem_map,List.getElem_range]
  rw[h3,List.getD_eq_getElem?_getD,List.getElem?_eq_getElem h2]
  rfl
theorem Qm {p:Pg}{d:Pd}(h:qk p d) (hn:d.none=false):qb both d d=d:=by
 obtain⟨dn,vs,fs⟩:=d
 dsimp only at hn
 subst hn
 have h1:qF both vs vs=vs:=Ku h.vg
 have h2:qG both ⟨false,vs,fs⟩ ⟨false,vs,fs⟩ fs.length=fs:=by
  apply List.ext_getElem
  ·simp[qG]
  ·intro k h1 h2
   simp only[qG,List.getElem_map,List.getElem_range]
   show qF both (fs.getD k []) (fs.getD k [])=_
   rw[Ku (fun j hj=>h.fg k j h2 hj),List.getD_eq_getElem?_getD,List.getElem?_eq_getElem h2]
   rfl
 show Pd.mk false _ _=_
 rw[h1]
 congr 1
theorem zfA {p:Pg}{is:Nat→Ins}{d:Res}(h:jX p is d=0):∀ x∈d.l,jc p is x=true:=by
 intro x hx
 obtain⟨k,hk,he⟩:=List.mem_iff_getElem.1 hx
 have h2:yw p is d.l=false:=by
  have h1:Jp p is (d.gu zn) d.l=0:=h
  unfold Jp at h1
  by_cases q:zm (d.gu zn).span=0
  ·rw[if_neg (by omega)]at h1
   by_cases q2:yw p is d.l=true
   ·rw[if_pos q2]at h1;omega
   ·simpa using q2
  ·rw[if_pos q]at h1;exact absurd h1 q
 have h4:(!jc p is (d.l.getD k 0))=false:=by
  cases h5:(!jc p is (d.l.getD k 0)) with
  | false=>rfl
  | true=>
   have h6:=qY (q:=fun k=>!jc p is (d.l.getD k 0)) hk h5
   unfold yw at h2
   rw[h6]at h2;cases h2
 rw[List.getD_eq_getElem?_getD,List.getElem?_eq_getElem hk]at h4
 simpa [he] using h4
theorem Vw {p:Pg}{is:Nat→Ins}{x:Int}(h:jc p is x=true):∃ m:Nat,x=m∧m<p.n∧(is m).kind=11:=by
 simp only[jc,Bool.and_eq_true,decide_eq_true_eq,beq_iff_eq]at h
 exact⟨x.toNat,by omega,by omega,h.2.2⟩
structure OkD (p:Pg) (is:Nat→Ins) (d:Res):Prop where
 span:zm d.span=0
 sites:∀ x∈d.l,jc p is x=true
 asc:ZL d.l
theorem zdg {l:List Int}(h:ZL l):Yd l=false:=by
 cases h1:Yd l with
 | false=>rfl
 | true=>
  obtain⟨k,hk,h2⟩:=KH.1 (show j7 _ _=true from h1)
  have h3:l.getD (k+1) 0≤l.getD k 0:=by simpa using h2
  have hk1:k+1<l.length:=by omega
  have h4:=List.pairwise_iff_getElem.1 h k (k+1) (by omega) hk1 (by omega)
  rw[List.getD_eq_getElem?_getD,List.getD_eq_getElem?_getD,List.getElem?_eq_getElem hk1,List.getElem?_eq_getElem (by omega)]at h3
  simp only[Option.getD_some]at h3
  omega
theorem OkD.of {p:Pg}{is:Nat→Ins}{d:Res}(h:jX p is d=0):OkD p is d:=by
 have h1:Jp p is (d.gu zn) d.l=0:=h
 unfold Jp at h1
 by_cases q:zm (d.gu zn).span=0
 ·refine⟨q,zfA h,?_⟩
  rw[if_neg (by omega)]at h1
  by_cases q2:yw p is d.l=true
  ·rw[if_pos q2]at h1;omega
  ·rw[if_neg q2]at h1
   by_cases q3:Yd d.l=true
   ·rw[if_pos q3]at h1;omega
   ·exact zcq (by simpa using q3)
 ·rw[if_pos q]at h1;exact absurd h1 q
theorem OkD.right {p:Pg}{is:Nat→Ins}{d:Res}(h:OkD p is d):jX p is d=0:=by
 show Jp p is (d.gu zn) d.l=0
 unfold Jp
 have h2:yw p is d.l=false:=jx fun k hk=>by
  have h1:=h.sites (d.l.getD k 0) (qX hk)
  show (!jc p is (d.l.getD k 0))=false
  rw[h1];rfl
 rw[if_neg (by have:zm (d.gu zn).span=0:=h.span;omega),h2,zdg h.asc]
 rfl
theorem OkD.few {p:Pg}{is:Nat→Ins}{d:Res}(h:OkD p is d) (hp:zl p is=0):jY d:=jY.of h.right hp
structure jh (p:Pg) (is:Nat→Ins) (d:Pd):Prop where
 none:d.none=false
 vars:(d.vars.length:Int)=p.vars
 fields:d.fields.length=p.n
 rows:∀ k,k<p.n→((d.row k).length:Int)=p.fields
 vg:∀ g∈d.vars,OkD p is g
 fg:∀ k,k<p.n→∀ g∈d.row k,OkD p is g
 stray:∀ k:Nat,k<p.n→jc p is k=false→∀ g∈d.row k,qP g=true
theorem jh.of {p:Pg}{is:Nat→Ins}{d:Pd}(h:qd p is d=0) (hn:d.none=false):jh p is d:=by
 obtain⟨dn,vs,fs⟩:=d
 dsimp only at hn
 subst hn
 rw[JC]at h
 split at h
 ·cases h
 rename_i h1
 split at h
 ·rename_i h2;exact absurd h h2
 rename_i h2
 split at h
 ·cases h
 rename_i hst
 have h3:YK p is (vs::fs)=0:=by omega
 rw[Jq]at h3
 have h4:=Y4 h3
 have h5:ZF p ⟨false,vs,fs⟩=false:=by simpa using h1
 unfold ZF at h5
 simp only[Bool.or_eq_false_iff,bne_eq_false_iff_eq]at h5
 obtain⟨⟨h6,h7⟩,h8⟩:=h5
 have h7' : fs.length=p.n:=by omega
 have h9:∀ k,k<fs.length→((fs.getD k []).length:Int)=p.fields:=fun k hk=>by
  by_cases hq:((fs.getD k []).length:Int)=p.fields
  ·exact hq
  ·have:=qY (q:=fun i=>((Pd.row ⟨false,vs,fs⟩ i).length:Int) != p.fields) hk (by simpa using hq)
   rw[this]at h8
   cases h8
 refine⟨rfl,h6,h7',fun k hk=>h9 k (by omega),fun g hg=>OkD.of (h4 g (List.mem_flatten.2 ⟨vs,List.mem_cons_self,hg⟩)),fun k hk g hg=>OkD.of (h4 g (List.mem_flatten.2 ⟨fs.getD k [],List.mem_cons_of_mem _ (qX (by omega)),hg⟩)),fun k hk hs g hg=>?_⟩
 have h10:ZU p is fs=false:=by simpa using hst
 cases he:qP g with
 | true=>rfl
 | false=>
  have h11:YL (fs.getD k [])=true:=by
   obtain⟨j,hj,hje⟩:=List.mem_iff_getElem.1 hg
   refine qY (q:=fun j=>!qP ((fs.getD k []).getD j zy)) (k:=j) hj ?_
   show (!qP ((fs.getD k []).getD j zy))=true
   have e2:(fs.getD k []).getD j zy=g:=by
    rw[List.getD_eq_getElem?_getD,List.getElem?_eq_getElem hj];exact hje
   rw[e2,he];rfl
  have h12:=qY (q:=fun i=>!jc p is i&&YL (fs.getD i [])) (n:=fs.length) (k:=k) (by omega) (by show (!jc p is k&&YL (fs.getD k []))=true;rw[hs,h11];rfl)
  unfold ZU at h10
  rw[h12]at h10;cases h10
theorem jh.right {p:Pg}{is:Nat→Ins}{d:Pd}(h:jh p is d):qd p is d=0:=by
 obtain⟨dn,vs,fs⟩:=d
 obtain⟨h1,h2,h3,h4,h5,h6,h7⟩:=h
 dsimp only at h1 h2 h3 h4 h5 h6 h7
 subst h1
 rw[JC]
 have hl:ZF p ⟨false,vs,fs⟩=false:=by
  unfold ZF
  have e1:j7 (fun i=>((Pd.row ⟨false,vs,fs⟩ i).length:Int) != p.fields) fs.length=false:=jx fun k hk=>by
   have:=h4 k (by omega)
   simpa using this
  rw[e1]
  simp[h2,h3]
 have hr:YK p is (vs::fs)=0:=by
  rw[Jq]
  have:∀ l:List Res,(∀ g∈l,jX p is g=0)→jI (l.map (jX p is))=0:=by
   intro l
   induction l with
   | nil=>intro _;rfl
   | cons a l ih=>
    intro hl
    rw[List.map_cons,jI,if_pos (hl a List.mem_cons_self)]
    exact ih fun g hg=>hl g (List.mem_cons_of_mem _ hg)
  refine this _ fun g hg=>?_
  obtain⟨l,hl,hgl⟩:=List.mem_flatten.1 hg
  rcases List.mem_cons.1 hl with rfl|hl
  ·exact(h5 g hgl).right
  ·obtain⟨k,hk,hke⟩:=List.mem_iff_getElem.1 hl
   refine(h6 k (by omega) g ?_).right
   show g∈fs.getD k []
   rw[List.getD_eq_getElem?_getD,List.getElem?_eq_getElem hk]
   simpa [hke] using hgl
 have hs:ZU p is fs=false:=jx fun k hk=>by
  cases hsi:jc p is k with
  | true=>rfl
  | false=>
   have h8:YL (fs.getD k [])=false:=jx fun j hj=>by
    have h9:=h7 k (by omega) hsi ((fs.getD k []).getD j zy) (qX hj)
    rw[h9];rfl
   show (!false&&YL (fs.getD k []))=false
   rw[h8,Bool.and_false]
 rw[hl,hr,hs]
 simp
theorem jh.r {p:Pg}{is:Nat→Ins}{d:Pd}(h:jh p is d) (hp:zl p is=0):qk p d:=qk.of h.right hp h.none
theorem zfB:∀ args w,(callFunc 150 args).run Tryz.prog w=.ok (.enter 150 args) w:=fun args w=>by kernel_rfl
theorem zfC:∀ args w,(callFunc 148 args).run Tryz.prog w=.ok (.enter 148 args) w:=fun args w=>by kernel_rfl
abbrev Q5 (d e:Res):Bool:=X2 (d.gu zn) (e.gu zn) d.l e.l
def qH (ds es:List Res):Bool:=jy ds.length es.length fun k=>Q5 (ds.getD k zy) (es.getD k zy)
def y6 (fs gs:List (List Res)):Bool:=jy fs.length gs.length fun k=>qH (fs.getD k []) (gs.getD k [])
def jv (d e:Pd):Bool:=if (d.none || e.none)=true then d.none else qH d.vars e.vars&&y6 d.fields e.fields
theorem Kv (s t:Sl) (ds es:List Res) (w:World) (hs:jW w s ds) (ht:jW w t es):
  Calls Tryz.prog 148 #[s.v,t.v] w fun q w'=>q=.returned (.bool (qH ds es))∧Below w.heap.size w w':=by
 obtain⟨ss,hs1,hs2⟩:=hs.ex
 obtain⟨st,ht1,ht2⟩:=ht.ex
 have hE:=fun w' (hb:Below w.heap.size w w')=>zfI s t (fun k=>(ds.getD k zy).gu (ss k)) (fun k=>(es.getD k zy).gu (st k)) (fun k=>Q5 (ds.getD k zy) (es.getD k zy)) 150 w' hs.m ht.m (hs1.grow hb) (ht1.grow hb) zfB (fun k hk1 hk2 w2 hb2=>GY ((ds.getD k zy).gu (ss k)) ((es.getD k zy).gu (st k)) (ds.getD k zy).l (es.getD k zy).l w2 (((hs2 k hk1).grow hb).grow hb2) (((ht2 k hk2).grow hb).grow hb2))
 rw[show jy s.n t.n (fun k=>Q5 (ds.getD k zy) (es.getD k zy))=qH ds es by rw[hs.n,ht.n];rfl]at hE
 have HE:=Lib.hid hE
 clear hE hs ht hs1 hs2 ht1 ht2
 obtain⟨sp,sn,sc⟩:=s
 obtain⟨tp,tn,tc⟩:=t
 dsimp only[Sl.v]at HE ⊢
 have hL:=Loc.start w
 go_enter Tryz.func148,Tryz.ntmps148
 go_wp2_with (first|(with_reducible first|refine lld hL ?_|((first|refine lbx hL ?_|refine lal hL ?_|refine lbs hL ?_);clear hL;intro bl w1 hL)|(refine zd hL ?_;clear hL;intro w1 hL))|(go_at_call 149;refine(HE.out _ hL.below).mono ?_;rintro e w1 ⟨rfl,hb⟩;replace hL:=hL.grow hb;clear hb;dsimp only))
 (try simp only[Exit.inBlock,Exit.then]);refine rt1 ?_
 exact⟨rfl,hL.below⟩
theorem zah (x y:Pv) (d e:Pd) (w:World) (hx:zN w x d) (hy:zN w y e):
  Calls Tryz.prog 100 #[x.v,y.v] w fun q w'=>q=.returned (.bool (jv d e))∧Below w.heap.size w w':=by
 have HV:=Lib.hid (fun w' (hb:Below w.heap.size w w')=>Kv x.vars y.vars d.vars e.vars w' (hx.vars.grow hb) (hy.vars.grow hb))
 obtain⟨rx,hrx,hrx2⟩:=hx.fields.ex
 obtain⟨ry,hry,hry2⟩:=hy.fields.ex
 have hF:=fun w' (hb:Below w.heap.size w w')=>zfJ x.fields y.fields rx ry (fun k=>qH (d.fields.getD k []) (e.fields.getD k [])) 148 w' hx.fields.m hy.fields.m (hrx.grow hb) (hry.grow hb) zfC (fun k hk1 hk2 w2 hb2=>Kv (rx k) (ry k) (d.fields.getD k []) (e.fields.getD k []) w2 (((hrx2 k hk1).grow hb).grow hb2) (((hry2 k hk2).grow hb).grow hb2))
 rw[show jy x.fields.n y.fields.n (fun k=>qH (d.fields.getD k []) (e.fields.getD k []))=y6 d.fields e.fields by rw[hx.fields.n,hy.fields.n];rfl]at hF
 have HFF:=Lib.hid hF
 have HQ:=Lib.hid (show jv d e=if (d.none || e.none)=true then d.none else qH d.vars e.vars&&y6 d.fields e.fields from rfl)
 have hxe:=hx.e
 have hye:=hy.e
 clear hx hy hrx hry hrx2 hry2 hF
 obtain⟨xn,⟨xp,xvn,xc⟩,⟨xfp,xfn,xfc⟩⟩:=x
 obtain⟨yn,⟨yp,yvn,yc⟩,⟨yfp,yfn,yfc⟩⟩:=y
 dsimp only[Sl.v]at hxe hye HV HFF
 subst hxe hye
 generalize qH d.vars e.vars=a at HV HQ
 generalize y6 d.fields e.fields=b at HFF HQ
 generalize jv d e=q0 at HQ ⊢
 generalize d.none=xn at HQ ⊢
 generalize e.none=yn at HQ ⊢
 have hL:=Loc.start w
 go_enter Tryz.func100,Tryz.ntmps100
 cases xn with
 | true=>
  have HX:=Lib.hid (show q0=true from HQ.out)
  go_wp2_with (first|(with_reducible first|refine lld hL ?_|((first|refine lbx hL ?_|refine lal hL ?_|refine lbs hL ?_);clear hL;intro bl w1 hL)|(refine zd hL ?_;clear hL;intro w1 hL)))
  (try simp only[Exit.inBlock,Exit.then]);refine rt1 ?_
  exact⟨by rw[HX.out];rfl,hL.below⟩
 | false=>
  cases yn with
  | true=>
   have HX:=Lib.hid (show q0=false from HQ.out)
   go_wp2_with (first|(with_reducible first|refine lld hL ?_|((first|refine lbx hL ?_|refine lal hL ?_|refine lbs hL ?_);clear hL;intro bl w1 hL)|(refine zd hL ?_;clear hL;intro w1 hL)))
   (try simp only[Exit.inBlock,Exit.then]);refine rt1 ?_
   exact⟨by rw[HX.out];rfl,hL.below⟩
  | false=>
   have HX:=Lib.hid (show q0=(a&&b) from HQ.out)
   clear HQ
   go_upto_region 4 with(first|(with_reducible first|refine lld hL ?_|((first|refine lbx hL ?_|refine lal hL ?_|refine lbs hL ?_);clear hL;intro bl w1 hL)|(refine zd hL ?_;clear hL;intro w1 hL)))
   refine zJ [14,15,16,17,18,19,20,21,22,23,24,25,26,27,4] ?_
   refine dv0 ?_
   refine dv0 ?_
   refine dv1 1 ?_
   refine dv0 ?_
   refine dv1 3 ?_
   apply zb
   ·intro g w hb v;replace hL:=hL.grow hb;have d0:=yv v 0;have d2:=yv v 2;have d4:=yv v 4;clear v;simp only[za,fLa,fLb,sTa,sTb];simp only[d0,d2,d4]
    go_wp2_with ((with_reducible refine(HV.out _ hL.below).mono ?_);rintro e w3 ⟨rfl,hb3⟩;dsimp only)
    exact⟨rfl,_,rfl,hb3,rfl⟩
   simp only[apN,apC]
   refine dv1 5 ?_
   refine dg0 6 ?_
   refine dg1 6 7 ?_
   refine dg0 6 ?_
   refine dg1 6 9 ?_
   refine dg0 6 ?_
   refine' zG (j:=6) rfl rfl rfl (by decide) (by simp) ?_ ?_;rotate_left
   ·intro hcs;simp only[Bool.and_eq_true,jp,jq]at hcs;intro g w hb v;replace hL:=hL.grow hb;have d8:=yv v 8;simp only[hcs,beq_self_eq_true,Bool.and_self,Bool.true_and,Bool.and_true,zr]at d8;have d10:=yv v 10;simp only[hcs,beq_self_eq_true,Bool.and_self,Bool.true_and,Bool.and_true,zr]at d10;have d11:=yv v 11;simp only[hcs,beq_self_eq_true,Bool.and_self,Bool.true_and,Bool.and_true,zr]at d11;clear v;simp only[za,fLa,fLb,sTa,sTb];simp only[d8,d10,d11]
    go_wp2_with (go_at_call 151;refine(HFF.out _ hL.below).mono ?_;rintro e w3 ⟨rfl,hb3⟩;dsimp only)
    exact⟨rfl,_,rfl,hb3,rfl⟩
   simp only[apN,apC]
   refine dpa 6 12 ?_
   refine dv1 13 ?_
   refine dns hL ?_
   clear hL;intro w2 hL;simp only[zV,sTa,sTb]
   go_wp2_with (first|(with_reducible first|refine lld hL ?_|((first|refine lbx hL ?_|refine lal hL ?_|refine lbs hL ?_);clear hL;intro bl w1 hL)|(refine zd hL ?_;clear hL;intro w1 hL)))
   (try simp only[Exit.inBlock,Exit.then]);refine rt1 ?_
   exact⟨by rw[HX.out];rfl,hL.below⟩
end Go.Proofs.YtplcndmdkabmeaaGreatDoor
