/- A picture whose variables' words are fixed, as a fact on memory; the reference's JoinPicture: what was there, or a new one. Conditions: right pictures. -/
import Derived.Test.YtplcndmdkabmeaaGreatDoorSolI
import Derived.Test.YtplcndmdkabmeaaGreatDoorPicc
import Derived.Test.YtplcndmdkabmeaaGreatDoorRefSolA
import Derived.Test.YtplcndmdkabmeaaGreatDoorPil
set_option linter.unusedSimpArgs false
set_option linter.unusedVariables false
set_option maxRecDepth 100000
set_option maxHeartbeats 1600000
namespace Go.Proofs.YtplcndmdkabmeaaGreatDoor
open Go.RowKit
theorem jW.onG {w:World}{X:Nat→Prop}{s:Sl}{ds:List Res}(h:On w X (fun w=>jW w s ds)):∃ gl:List Gu,∀ w',(∀ b,X b→w'.heap[b]? = w.heap[b]?)→zX w' gl ds∧je w' 7 s.p s.n (fun k=>Gu.cells (gl.getD k zT)):=by
 have hE:∀ b,¬ X b→jW (QW w b) s ds:=fun b hx=>h _ (fun c hc=>Qk (fun e=>hx (by rw[← e];exact hc)))
 obtain⟨h1,h2,ss,h3,h4⟩:=h w (fun _ _=>rfl)
 have hb:∀ b o,0<s.n→s.p=some ⟨b,o,none⟩→X b:=fun b o hn hp=>by
  apply Classical.byContradiction
  intro hx
  obtain⟨_,_,ss',h3',_⟩:=hE b hx
  exact h3'.erased hn hp (fun e=>by cases e)
 refine⟨(List.range s.n).map fun k=>(ds.getD k zy).gu (ss k),fun w' hw=>?_⟩
 have hl:=h3.on (w':=w') (fun _ _ e=>by cases e) hb (fun b hb _=>hw b hb)
 have hi:∀ k,k<s.n→zp w' (ss k) (ds.getD k zy).l:=fun k hk=>(h4 k hk).on (fun b o hn hp=>by
  apply Classical.byContradiction
  intro hx
  obtain⟨_,_,ss',h3',h4'⟩:=hE b hx
  have hne:∀ o,s.p≠some ⟨b,o,none⟩:=fun o e=>hx (hb b o (by omega) e)
  have e:(Value.slice (ss k).p (ss k).n (ss k).cap)=.slice (ss' k).p (ss' k).n (ss' k).cap:=h3.same h3' hne hk (j:=6) rfl rfl
  obtain⟨e1,e2,_⟩:(ss k).p=(ss' k).p∧(ss k).n=(ss' k).n∧(ss k).cap=(ss' k).cap:=by simpa using e
  exact(h4' k hk).at'.erased (by omega) (by rw[← e1];exact hp) (fun e=>by cases e)) (fun b hb _=>hw b hb)
 have hg:∀ k,k<s.n→((List.range s.n).map fun k=>(ds.getD k zy).gu (ss k)).getD k zT=(ds.getD k zy).gu (ss k):=fun k hk=>Qu _ _ _ _ hk
 refine⟨⟨by simp[h1],fun k hk=>?_⟩,hl.congr fun k hk=>by rw[hg k hk]⟩
 rw[hg k (by rw[h1];exact hk)]
 exact qq.mk' (hi k (by rw[h1];exact hk))
def Y2 (w:World) (x:Pv) (d:Pd) (gx:List Gu):Prop:=zN w x d∧J6 w x d gx
theorem Loc.gx {w0 w:World}{L:List zj}{D:List zw}{x:Pv}{d:Pd}(h:Loc w0 w L ((fun w=>zN w x d)::D)):∃ gx,Loc w0 w L ((fun w=>Y2 w x d gx)::D):=by
 obtain⟨X,hX,hO⟩:=h.data _ List.mem_cons_self
 obtain⟨gx,hg⟩:=jW.onG (X:=X) (s:=x.vars) (ds:=d.vars) (fun w' hw'=>(hO w' hw').vars)
 refine⟨gx,h.below,h.nodup,h.ids,h.cells,fun S hS=>?_⟩
 rcases List.mem_cons.1 hS with rfl|hS
 ·exact⟨X,hX,fun w' hw'=>⟨hO w' hw',(hg w' hw').1,(hg w' hw').2⟩⟩
 ·exact h.data S (List.mem_cons_of_mem _ hS)
theorem Loc.derive {w0 w:World}{L:List zj}{D:List zw}{S U:zw}(h:Loc w0 w L D) (hS:S∈D) (hu:∀ w,S w→U w):Loc w0 w L (U::D):=by
 refine⟨h.below,h.nodup,h.ids,h.cells,fun V hV=>?_⟩
 rcases List.mem_cons.1 hV with rfl|hV
 ·obtain⟨X,hX,h1⟩:=h.data S hS
  exact⟨X,hX,fun w' hw'=>hu w' (h1 w' hw')⟩
 ·exact h.data V hV
def yy (xs:List Pv) (gs:List (List Gu)) (l:List Pd):zw:=fun w=>∀ k,k<l.length→Y2 w (xs.getD k qU) (l.getD k zQ) (gs.getD k [])
theorem yy.set {xs:List Pv}{gs:List (List Gu)}{l:List Pd}{w:World}(h:yy xs gs l w) (hl:xs.length=l.length) (hg:gs.length=l.length) {t:Nat}{r:Pv}{d:Pd}{gx:List Gu}(hr:Y2 w r d gx):yy (xs.set t r) (gs.set t gx) (l.set t d) w:=by
 intro k hk
 rw[List.length_set]at hk
 by_cases h1:k=t
 ·subst h1
  rw[qy _ _ _ _ _ (by omega),if_pos rfl,qy _ _ _ _ _ (by omega),if_pos rfl,qy _ _ _ _ _ (by omega),if_pos rfl]
  exact hr
 ·by_cases ht:t<l.length
  ·rw[qy _ _ _ _ _ (by omega),if_neg h1,qy _ _ _ _ _ (by omega),if_neg h1,qy _ _ _ _ _ (by omega),if_neg h1]
   exact h k hk
  ·rw[List.set_eq_of_length_le (by omega),List.set_eq_of_length_le (by omega),List.set_eq_of_length_le (by omega)]
   exact h k hk
theorem Y2.none (w:World):Y2 w yk zQ []:=
 ⟨zN.none w,zX.nil w,0,0,fun h=>absurd h (Nat.lt_irrefl 0),fun k hk=>absurd hk (Nat.not_lt_zero k)⟩
theorem yy.snoc {xs:List Pv}{gs:List (List Gu)}{l:List Pd}{w:World}(h:yy xs gs l w) (hl:xs.length=l.length) (hg:gs.length=l.length) {r:Pv}{d:Pd}{gx:List Gu}(hr:Y2 w r d gx):yy (xs++[r]) (gs++[gx]) (l++[d]) w:=by
 intro k hk
 rw[List.length_append]at hk
 have e:∀ {α:Type} (m:List α) (a z:α),m.length=l.length→(k<l.length→(m++[a]).getD k z=m.getD k z)∧(¬ k<l.length→(m++[a]).getD k z=a):=fun m a z hm=>by
  refine⟨fun h=>?_,fun h=>?_⟩
  ·rw[List.getD_eq_getElem?_getD,List.getD_eq_getElem?_getD,List.getElem?_append_left (by omega)]
  ·have:k=m.length:=by simp at hk;omega
   subst this
   rw[List.getD_eq_getElem?_getD,List.getElem?_append_right (Nat.le_refl _)]
   simp
 by_cases h1:k<l.length
 ·rw[(e xs r qU hl).1 h1,(e gs gx [] hg).1 h1,(e l d zQ rfl).1 h1];exact h k h1
 ·rw[(e xs r qU hl).2 h1,(e gs gx [] hg).2 h1,(e l d zQ rfl).2 h1];exact hr
theorem zp.onI {w w2:World}{X:Nat→Prop}{s:Sl}{l:List Int}(h:On w X (fun w=>zp w s l)) (hw:∀ c,X c→(∃ o v,w.cell? ⟨c,o,none⟩=some (.int .i64 v))→w2.heap[c]? = w.heap[c]?):zp w2 s l:=by
 have h0:=h w (fun _ _=>rfl)
 obtain⟨b,o,hp,hc⟩:=h0.at'.ex
 refine⟨h0.n,h0.m,b,o,hp,fun k hk=>?_⟩
 obtain⟨h1,h2⟩:=hc k hk
 have hX:X b:=by
  apply Classical.byContradiction
  intro hx
  have h3:=h (QW w b) (fun c hc=>Qk (fun e=>hx (by rw[← e];exact hc)))
  exact h3.at'.erased (by omega) (hp (by omega)) (fun e=>by cases e)
 have e1:=hw b hX ⟨_,_,h2 0 _ rfl⟩
 have e2:∀ j,w2.cell? ⟨b,j,none⟩=w.cell? ⟨b,j,none⟩:=fun j=>by simp only[World.cell?,e1]
 refine⟨?_,fun j v hj=>by rw[e2];exact h2 j v hj⟩
 rw[Array.getElem?_eq_getElem h1]at e1
 exact zL e1
theorem zX.onI {w w2:World}{X:Nat→Prop}{gl:List Gu}{ds:List Res}(h:On w X (fun w=>zX w gl ds)) (hw:∀ c,X c→(∃ o v,w.cell? ⟨c,o,none⟩=some (.int .i64 v))→w2.heap[c]? = w.heap[c]?):zX w2 gl ds:=
 ⟨(h w (fun _ _=>rfl)).len,fun k hk=>⟨((h w (fun _ _=>rfl)).at' k hk).e,zp.onI (w:=w) (X:=X) (fun w' hw'=>((h w' hw').at' k hk).l) hw⟩⟩
theorem zS.onI {w w2:World}{X:Nat→Prop}{gv:List Gu}{gf:List (List Gu)}{vs:List Res}{fs:List (List Res)}(h:On w X (zS gv gf vs fs)) (hw:∀ c,X c→(∃ o v,w.cell? ⟨c,o,none⟩=some (.int .i64 v))→w2.heap[c]? = w.heap[c]?):zS gv gf vs fs w2:=
 ⟨zX.onI (w:=w) (X:=X) (fun w' hw'=>(h w' hw').1) hw,(h w (fun _ _=>rfl)).2.len,fun k hk=>zX.onI (w:=w) (X:=X) (fun w' hw'=>(h w' hw').2.at' k hk) hw⟩
theorem zM.typ {E size:Nat}{p:Option Addr}{n cap:Nat}{xs:List Value}{R:List zj}(h:zM E size p n cap xs R):∀ e∈R,e.2.1=E:=by
 intro e he
 rcases h.2 with⟨_,_,hR⟩|⟨g,cs,_,hR,_⟩
 ·subst hR;cases he
 ·subst hR;rw[List.mem_singleton.1 he]
theorem j9.typ {rs:List Sl}{gf:List (List Gu)}{Rf:List zj}(h:j9 rs gf Rf):∀ e∈Rf,e.2.1=108:=by
 induction h with
 | nil=>intro e he;cases he
 | cons h hs ih=>intro e he;rcases List.mem_append.1 he with he|he;exact h.typ e he;exact ih e he
theorem QX.aside {w w' : World}{r:Pv}{d:Pd}(g:QX w w' r d) (hm:d.vars.length+d.fields.length≤9223372036854775807) {b:Nat}{cs:List Value}(hw:w.heap.size≤b) (hc:w'.heap[b]? = some (.cells cs.toArray 54 (0,0))) (hn:∀ (o:Nat) (v:Int),cs[o]? ≠some (Value.int .i64 v)):Loc w w' [(b,54,cs)] [fun w=>zN w r d]:=by
 obtain⟨gv,gf,rs,Rv,Rh,Rf,h1,h2,h3⟩:=g
 have hty:∀ e∈Rv++(Rf++Rh),e.1≠b:=fun e he heb=>by
  have h4:=h3.cells e he
  rw[heb,hc]at h4
  simp only[Option.some.injEq,Obj.cells.injEq]at h4
  have h5:=h4.2.1
  rcases List.mem_append.1 he with he|he
  ·rw[h2.vars.typ e he]at h5;exact absurd h5 (by decide)
  ·rcases List.mem_append.1 he with he|he
   ·rw[h2.rows.typ e he]at h5;exact absurd h5 (by decide)
   ·rw[h2.heads.typ e he]at h5;exact absurd h5 (by decide)
 have h4:Loc w w' ([(b,54,cs)]++(Rv++(Rf++Rh))) [zS gv gf d.vars d.fields]:=by
  refine⟨h3.below,?_,?_,?_,fun S hS=>?_⟩
  ·rw[List.singleton_append,List.map_cons,List.nodup_cons]
   refine⟨fun hmem=>?_,h3.nodup⟩
   obtain⟨e,he,heb⟩:=List.mem_map.1 hmem
   exact hty e he heb
  ·intro e he
   rcases List.mem_append.1 he with he|he
   ·rw[List.mem_singleton.1 he];exact hw
   ·exact h3.ids e he
  ·intro e he
   rcases List.mem_append.1 he with he|he
   ·rw[List.mem_singleton.1 he];exact hc
   ·exact h3.cells e he
  ·rw[List.mem_singleton.1 hS]
   obtain⟨X,hX,hO⟩:=h3.data _ List.mem_cons_self
   refine⟨fun c=>X c∧c≠b,fun c hx=>⟨(hX c hx.1).1,fun e he=>?_⟩,fun w2 hw2=>zS.onI hO fun c hx ⟨o,v,hov⟩=>hw2 c ⟨hx,fun e=>?_⟩⟩
   ·rcases List.mem_append.1 he with he|he
    ·rw[List.mem_singleton.1 he];exact fun e=>hx.2 e.symm
    ·exact(hX c hx.1).2 e he
   ·subst e
    exact hn o v (by simpa [World.cell?,hc] using hov)
 refine h4.facts fun w2 hr ht=>h2.is (B:=w.heap.size) ⟨h3.nodup,fun e he=>⟨h3.ids e he,hr e he⟩⟩ ht h1 hm
structure zbj (evs:List EdV) (s:Sl) (es:List (Int × Pd)) (w:World):Prop where
 d:ym w evs es
 l:je w 4 s.p s.n (fun k=>EdV.cells (evs.getD k JN))
 n:s.n=es.length
 m:s.n≤maxLen
theorem zfs {e f:EdV}(h:∀ (j:Nat) (v:Value),(EdV.cells e)[j]? = some v→(EdV.cells f)[j]? = some v):e=f:=by
 obtain⟨eg,en,⟨e1,e2,e3⟩,⟨e4,e5,e6⟩⟩:=e
 obtain⟨fg,fn,⟨f1,f2,f3⟩,⟨f4,f5,f6⟩⟩:=f
 have h0:(Value.int .i64 fg)=.int .i64 eg:=Option.some.inj (h 0 _ rfl)
 have h1:(Value.bool fn)=.bool en:=Option.some.inj (h 1 _ rfl)
 have h2:(Value.slice f1 f2 f3)=.slice e1 e2 e3:=Option.some.inj (h 2 _ rfl)
 have h3:(Value.slice f4 f5 f6)=.slice e4 e5 e6:=Option.some.inj (h 3 _ rfl)
 simp only[Value.int.injEq,Value.bool.injEq,Value.slice.injEq,true_and]at h0 h1 h2 h3
 obtain⟨rfl,rfl,rfl⟩:=h2
 obtain⟨rfl,rfl,rfl⟩:=h3
 subst h0 h1
 rfl
theorem Loc.edsW {w0 w:World}{L:List zj}{D:List zw}{s:Sl}{es:List (Int × Pd)}(h:Loc w0 w L ((fun w=>y9 w s es)::D)):∃ evs,Loc w0 w L (zbj evs s es::D):=by
 obtain⟨X,hX,hO⟩:=h.data _ List.mem_cons_self
 obtain⟨hn,hm,evs,hd,hl⟩:=hO w (fun _ _=>rfl)
 refine⟨evs,h.below,h.nodup,h.ids,h.cells,fun S hS=>?_⟩
 rcases List.mem_cons.1 hS with rfl|hS
 ·refine⟨X,hX,fun w' hw'=>?_⟩
  obtain⟨-,-,evs',hd',hl'⟩:=hO w' hw'
  have he:∀ k,k<s.n→evs'.getD k JN=evs.getD k JN:=fun k hk=>by
   obtain⟨b,o,hp,hc⟩:=hl.ex
   obtain⟨b',o',hp',hc'⟩:=hl'.ex
   have e1:=hp (by omega)
   have e2:=hp' (by omega)
   rw[e1]at e2
   obtain⟨rfl,rfl⟩:b=b'∧o=o':=by simpa using e2
   have hXb:X b:=by
    apply Classical.byContradiction
    intro hx
    obtain⟨-,-,evs2,-,hl2⟩:=hO (QW w b) (fun c hc=>Qk (fun e=>hx (by rw[← e];exact hc)))
    exact hl2.erased (by omega) e1 (fun e=>by cases e)
   have e3:=hw' b hXb
   refine zfs fun j v hj=>?_
   have h1:=(hc' k hk).2 j v hj
   have hj4:j<4:=(List.getElem?_eq_some_iff.1 hj).1
   obtain⟨u,hu⟩:∃ u,(EdV.cells (evs.getD k JN))[j]? = some u:=⟨_,List.getElem?_eq_getElem (show j<(EdV.cells (evs.getD k JN)).length from hj4)⟩
   have h2:=(hc k hk).2 j u hu
   rw[hu,← h1,← h2]
   simp only[World.cell?,e3]
  have hlen:evs'.length=evs.length:=by rw[hd'.len,hd.len]
  have hee:evs'=evs:=Kr JN hlen fun k hk=>he k (by rw[hn,← hd'.len];exact hk)
  rw[hee]at hd' hl'
  exact⟨hd',hl',hn,hm⟩
 ·exact h.data S (List.mem_cons_of_mem _ hS)
theorem Y2.grow {w w' : World}{x:Pv}{d:Pd}{gx:List Gu}(h:Y2 w x d gx) (hb:Below w.heap.size w w'):Y2 w' x d gx:=⟨h.1.grow hb,h.2.d.grow hb,h.2.l.grow hb⟩
theorem zbk (nv nf pn:Nat) (r:Pv) (g:List Gu) (w:World) (h:Y2 w r (yj nv nf pn) g):yy (r::List.replicate pn yk) (g::List.replicate pn []) (zB nv nf pn) w:=by
 intro k hk
 cases k with
 | zero=>exact h
 | succ k=>
  have hk2:k<pn:=by simpa [zB] using hk
  rw[K3,List.getD_cons_succ,List.getD_cons_succ,List.getD_eq_getElem?_getD,List.getD_eq_getElem?_getD,List.getElem?_replicate,List.getElem?_replicate,if_pos hk2,if_pos hk2]
  exact Y2.none w
def YN (wq:World) (x y:Pv) (d e dj:Pd):Value→World→Prop:=fun v w=>∃ r:Pv,v=.agg #[.bool r.none,.slice r.vars.p r.vars.n r.vars.cap,.slice r.fields.p r.fields.n r.fields.cap]∧((r=y∧dj=e)∨(r=x∧dj=d)∨QX wq w r dj)
theorem YN.stable {wq:World}{x y:Pv}{d e dj:Pd}:jC (YN wq x y d e dj):=by
 rintro v w w' hb ⟨r,h1,h2|h2|h2⟩
 ·exact⟨r,h1,.inl h2⟩
 ·exact⟨r,h1,.inr (.inl h2)⟩
 ·exact⟨r,h1,.inr (.inr (h2.grow hb))⟩
theorem Loc.join {w0 wq w:World}{L:List zj}{D:List zw}(h:Loc w0 wq L D) (hb:Below wq.heap.size wq w) {b:Nat}(hbn:wq.heap.size≤b) (hbc:w.heap[b]? = some (.cells QD.toArray 54 (0,0)))
  {S T:zw} (hS:S∈D) (hT:T∈D) {r x y:Pv} {d e dj:Pd} (h1:∀ w,S w→zN w x d) (h2:∀ w,T w→zN w y e) (hm:dj.vars.length+dj.fields.length≤9223372036854775807)
  (hr:(r=y∧dj=e)∨(r=x∧dj=d)∨QX wq w r dj):Loc w0 w (L++[(b,54,QD)]) ((fun w=>zN w r dj)::D):=by
 have h0:Loc wq w [(b,54,QD)] []:=(Loc.start wq).gain hb hbn hbc
 rcases hr with⟨rfl,rfl⟩|⟨rfl,rfl⟩|hr
 ·exact(h.gave h0).derive hT h2
 ·exact(h.gave h0).derive hS h1
 ·refine h.gave (QX.aside hr hm hbn hbc fun o v=>?_)
  match o with
  | 0=>simp
  | 1=>simp
  | 2=>simp
  | o+3=>simp
theorem zbl (wd:Bool) (f:zq→zq→zq) (hf:∀ (s t:zq) (w:World),Calls Tryz.prog 119 #[s.v,t.v,.bool wd] w fun e w'=>e=.returned (f s t).v∧Below w.heap.size w w')
  (p:Pg) (is:Nat→Ins) (x y:Pv) (d e:Pd) (w:World) (hx:zN w x d) (hy:zN w y e) (hp:zl p is=0) (h:qd p is d=0) (h' : qd p is e=0):
  Calls Tryz.prog 57 #[x.v,y.v,.bool wd] w fun q w'=>∃ v,q=.returned v∧YN w x y d e (QL f d e) v w'∧Below w.heap.size w w':=by
 have hs:=(zx hp).1
 cases hdn:d.none with
 | true=>
  have HQ:=Lib.hid (show QL f d e=e by simp[QL,hdn])
  have hxe:=hx.e
  rw[hdn]at hxe
  clear hx hy h h' hp hs hdn
  obtain⟨xn,⟨xp,xvn,xc⟩,⟨xfp,xfn,xfc⟩⟩:=x
  obtain⟨yn,⟨yp,yvn,yc⟩,⟨yfp,yfn,yfc⟩⟩:=y
  dsimp only at hxe
  subst hxe
  have hL:=Loc.start w
  go_enter Tryz.func57,Tryz.ntmps57
  go_wp2_with (first|(with_reducible first|refine lld hL ?_|((first|refine lbx hL ?_|refine lal hL ?_);clear hL;intro bl w1 hL)|(refine zd hL ?_;clear hL;intro w1 hL)))
  refine rt1 ?_
  exact⟨_,rfl,⟨⟨yn,⟨yp,yvn,yc⟩,⟨yfp,yfn,yfc⟩⟩,rfl,.inl ⟨rfl,HQ.out⟩⟩,hL.below⟩
 | false=>
  cases hen:e.none with
  | true=>
   have HQ:=Lib.hid (show QL f d e=d by simp[QL,hdn,hen])
   have hxe:=hx.e
   have hye:=hy.e
   rw[hdn]at hxe
   rw[hen]at hye
   clear hx hy h h' hp hs hdn hen
   obtain⟨xn,⟨xp,xvn,xc⟩,⟨xfp,xfn,xfc⟩⟩:=x
   obtain⟨yn,⟨yp,yvn,yc⟩,⟨yfp,yfn,yfc⟩⟩:=y
   dsimp only at hxe hye
   subst hxe hye
   have hL:=Loc.start w
   go_enter Tryz.func57,Tryz.ntmps57
   go_wp2_with (first|(with_reducible first|refine lld hL ?_|((first|refine lbx hL ?_|refine lal hL ?_);clear hL;intro bl w1 hL)|(refine zd hL ?_;clear hL;intro w1 hL)))
   refine rt1 ?_
   exact⟨_,rfl,⟨⟨false,⟨xp,xvn,xc⟩,⟨xfp,xfn,xfc⟩⟩,rfl,.inr (.inl ⟨rfl,HQ.out⟩)⟩,hL.below⟩
  | false=>
   have hq:QL f d e=qb f d e:=by simp[QL,hdn,hen]
   rw[hq]
   refine(zc6 wd f hf p x y d e w hx hy hdn hen (qk.of h hp hdn) (qk.of h' hp hen) hs).mono ?_
   rintro q w' ⟨r,h1,h2⟩
   exact⟨_,h1,⟨r,rfl,.inr (.inr h2)⟩,h2.below⟩
theorem zbm (wd:Bool) (s t:zq) (w:World):Calls Tryz.prog 119 #[s.v,t.v,.bool wd] w fun e w'=>e=.returned ((if wd=true then jA else both) s t).v∧Below w.heap.size w w':=by
 cases wd with
 | false=>exact KY s t w
 | true=>exact zbs s t w
theorem zc4 {p:Pg}{is:Nat→Ins}(hp:zl p is=0) {f:zq→zq→zq}(hf:ZM f) {d e:Pd}(hd:qd p is d=0) (he:qd p is e=0):Zu (QL f d e) d=jv e d:=by
 obtain⟨h1,h2⟩:=US hp hf hd he
 rw[JQ hp hd he]at h1 h2
 cases hi:jv e d with
 | true=>rw[h2 hi];exact Vk.2 rfl
 | false=>
  cases hs:Zu (QL f d e) d with
  | false=>rfl
  | true=>
   have:=h1 hi
   rw[Vk.1 hs]at this
   omega
theorem zeg {p:Pg}{is:Nat→Ins}(hp:zl p is=0) {nb:Bool}{i:Nat}{x:Int × Pd}{s:List Pd × Bool}(h:qI p is s.1) (h1:qd p is x.2=0) (h2:0≤x.1∧x.1≤p.n):
  jf nb i x s=if Zu (QL (if (nb&&decide (x.1≤i))=true then jA else both) (s.1.getD x.1.toNat zQ) x.2) (s.1.getD x.1.toNat zQ)=true then s else (s.1.set x.1.toNat (QL (if (nb&&decide (x.1≤i))=true then jA else both) (s.1.getD x.1.toNat zQ) x.2),true):=by
 have hst:ZM (if (nb&&decide (x.1≤i))=true then jA else both):=by
  split
  ·exact ZN
  ·exact Zk
 have hr:=h.r x.1.toNat (by omega)
 rw[zc4 hp hst hr h1,← JQ hp hr h1]
 rfl
end Go.Proofs.YtplcndmdkabmeaaGreatDoor
