/-  -/
import Derived.Test.YtplcndmdkabmeaaGreatDoorSolI
import Derived.Test.YtplcndmdkabmeaaGreatDoorPicc
import Derived.Test.YtplcndmdkabmeaaGreatDoorRefSolA
import Derived.Test.YtplcndmdkabmeaaGreatDoorPil
set_option linter.unusedSimpArgs false
set_option linter.unusedVariables false
set_option maxRecDepth 100000
set_option maxHeartbeats 1600000
namespace Go.Proofs.YtplcndmdkabmeaaGreatDoor
open Go.RowKit
theorem RowIs.onG {w:World}{X:Nat→Prop}{s:Sl}{ds:List Res}(h:On w X (fun w=>RowIs w s ds)):∃ gl:List Gu,∀ w',(∀ b,X b→w'.heap[b]? = w.heap[b]?)→GusD w' gl ds∧ListC w' 7 s.p s.n (fun k=>Gu.cells (gl.getD k zeroG)):=by
 have hE:∀ b,¬ X b→RowIs (eraseB w b) s ds:=fun b hx=>h _ (fun c hc=>eraseB_other (fun e=>hx (by rw[← e];exact hc)))
 obtain⟨h1,h2,ss,h3,h4⟩:=h w (fun _ _=>rfl)
 have hb:∀ b o,0<s.n→s.p=some ⟨b,o,none⟩→X b:=fun b o hn hp=>by
  apply Classical.byContradiction
  intro hx
  obtain⟨_,_,ss',h3',_⟩:=hE b hx
  exact h3'.erased hn hp (fun e=>by cases e)
 refine⟨(List.range s.n).map fun k=>(ds.getD k zeroD).gu (ss k),fun w' hw=>?_⟩
 have hl:=h3.on (w':=w') (fun _ _ e=>by cases e) hb (fun b hb _=>hw b hb)
 have hi:∀ k,k<s.n→IntsAt w' (ss k) (ds.getD k zeroD).l:=fun k hk=>(h4 k hk).on (fun b o hn hp=>by
  apply Classical.byContradiction
  intro hx
  obtain⟨_,_,ss',h3',h4'⟩:=hE b hx
  have hne:∀ o,s.p≠some ⟨b,o,none⟩:=fun o e=>hx (hb b o (by omega) e)
  have e:(Value.slice (ss k).p (ss k).n (ss k).cap)=.slice (ss' k).p (ss' k).n (ss' k).cap:=h3.same h3' hne hk (j:=6) rfl rfl
  obtain⟨e1,e2,_⟩:(ss k).p=(ss' k).p∧(ss k).n=(ss' k).n∧(ss k).cap=(ss' k).cap:=by simpa using e
  exact(h4' k hk).at'.erased (by omega) (by rw[← e1];exact hp) (fun e=>by cases e)) (fun b hb _=>hw b hb)
 have hg:∀ k,k<s.n→((List.range s.n).map fun k=>(ds.getD k zeroD).gu (ss k)).getD k zeroG=(ds.getD k zeroD).gu (ss k):=fun k hk=>getD_map_range _ _ _ _ hk
 refine⟨⟨by simp[h1],fun k hk=>?_⟩,hl.congr fun k hk=>by rw[hg k hk]⟩
 rw[hg k (by rw[h1];exact hk)]
 exact GuIs.mk' (hi k (by rw[h1];exact hk))
def PicG (w:World) (x:Pv) (d:Pd) (gx:List Gu):Prop:=PicIs w x d∧GxIs w x d gx
theorem Loc.gx {w0 w:World}{L:List LBlk}{D:List Datum}{x:Pv}{d:Pd}(h:Loc w0 w L ((fun w=>PicIs w x d)::D)):∃ gx,Loc w0 w L ((fun w=>PicG w x d gx)::D):=by
 obtain⟨X,hX,hO⟩:=h.data _ List.mem_cons_self
 obtain⟨gx,hg⟩:=RowIs.onG (X:=X) (s:=x.vars) (ds:=d.vars) (fun w' hw'=>(hO w' hw').vars)
 refine⟨gx,h.below,h.nodup,h.ids,h.cells,fun S hS=>?_⟩
 rcases List.mem_cons.1 hS with rfl|hS
 ·exact⟨X,hX,fun w' hw'=>⟨hO w' hw',(hg w' hw').1,(hg w' hw').2⟩⟩
 ·exact h.data S (List.mem_cons_of_mem _ hS)
theorem Loc.derive {w0 w:World}{L:List LBlk}{D:List Datum}{S U:Datum}(h:Loc w0 w L D) (hS:S∈D) (hu:∀ w,S w→U w):Loc w0 w L (U::D):=by
 refine⟨h.below,h.nodup,h.ids,h.cells,fun V hV=>?_⟩
 rcases List.mem_cons.1 hV with rfl|hV
 ·obtain⟨X,hX,h1⟩:=h.data S hS
  exact⟨X,hX,fun w' hw'=>hu w' (h1 w' hw')⟩
 ·exact h.data V hV
def PicsG (xs:List Pv) (gs:List (List Gu)) (l:List Pd):Datum:=fun w=>∀ k,k<l.length→PicG w (xs.getD k zeroPv) (l.getD k nonePd) (gs.getD k [])
theorem PicsG.set {xs:List Pv}{gs:List (List Gu)}{l:List Pd}{w:World}(h:PicsG xs gs l w) (hl:xs.length=l.length) (hg:gs.length=l.length) {t:Nat}{r:Pv}{d:Pd}{gx:List Gu}(hr:PicG w r d gx):PicsG (xs.set t r) (gs.set t gx) (l.set t d) w:=by
 intro k hk
 rw[List.length_set]at hk
 by_cases h1:k=t
 ·subst h1
  rw[getD_set _ _ _ _ _ (by omega),if_pos rfl,getD_set _ _ _ _ _ (by omega),if_pos rfl,getD_set _ _ _ _ _ (by omega),if_pos rfl]
  exact hr
 ·by_cases ht:t<l.length
  ·rw[getD_set _ _ _ _ _ (by omega),if_neg h1,getD_set _ _ _ _ _ (by omega),if_neg h1,getD_set _ _ _ _ _ (by omega),if_neg h1]
   exact h k hk
  ·rw[List.set_eq_of_length_le (by omega),List.set_eq_of_length_le (by omega),List.set_eq_of_length_le (by omega)]
   exact h k hk
theorem PicG.none (w:World):PicG w nonePv nonePd []:=
 ⟨PicIs.none w,GusD.nil w,0,0,fun h=>absurd h (Nat.lt_irrefl 0),fun k hk=>absurd hk (Nat.not_lt_zero k)⟩
theorem PicsG.snoc {xs:List Pv}{gs:List (List Gu)}{l:List Pd}{w:World}(h:PicsG xs gs l w) (hl:xs.length=l.length) (hg:gs.length=l.length) {r:Pv}{d:Pd}{gx:List Gu}(hr:PicG w r d gx):PicsG (xs++[r]) (gs++[gx]) (l++[d]) w:=by
 intro k hk
 rw[List.length_append]at hk
 have e:∀ {α:Type} (m:List α) (a z:α),m.length=l.length→(k<l.length→(m++[a]).getD k z=m.getD k z)∧(¬ k<l.length→(m++[a]).getD k z=a):=fun m a z hm=>by
  refine⟨fun h=>?_,fun h=>?_⟩
  ·rw[List.getD_eq_getElem?_getD,List.getD_eq_getElem?_getD,List.getElem?_append_left (by omega)]
  ·have:k=m.length:=by simp at hk;omega
   subst this
   rw[List.getD_eq_getElem?_getD,List.getElem?_append_right (Nat.le_refl _)]
   simp
 by_cases h1:k<l.length
 ·rw[(e xs r zeroPv hl).1 h1,(e gs gx [] hg).1 h1,(e l d nonePd rfl).1 h1];exact h k h1
 ·rw[(e xs r zeroPv hl).2 h1,(e gs gx [] hg).2 h1,(e l d nonePd rfl).2 h1];exact hr
theorem IntsAt.onI {w w2:World}{X:Nat→Prop}{s:Sl}{l:List Int}(h:On w X (fun w=>IntsAt w s l)) (hw:∀ c,X c→(∃ o v,w.cell? ⟨c,o,none⟩=some (.int .i64 v))→w2.heap[c]? = w.heap[c]?):IntsAt w2 s l:=by
 have h0:=h w (fun _ _=>rfl)
 obtain⟨b,o,hp,hc⟩:=h0.at'.ex
 refine⟨h0.n,h0.m,b,o,hp,fun k hk=>?_⟩
 obtain⟨h1,h2⟩:=hc k hk
 have hX:X b:=by
  apply Classical.byContradiction
  intro hx
  have h3:=h (eraseB w b) (fun c hc=>eraseB_other (fun e=>hx (by rw[← e];exact hc)))
  exact h3.at'.erased (by omega) (hp (by omega)) (fun e=>by cases e)
 have e1:=hw b hX ⟨_,_,h2 0 _ rfl⟩
 have e2:∀ j,w2.cell? ⟨b,j,none⟩=w.cell? ⟨b,j,none⟩:=fun j=>by simp only[World.cell?,e1]
 refine⟨?_,fun j v hj=>by rw[e2];exact h2 j v hj⟩
 rw[Array.getElem?_eq_getElem h1]at e1
 exact heap_lt e1
theorem GusD.onI {w w2:World}{X:Nat→Prop}{gl:List Gu}{ds:List Res}(h:On w X (fun w=>GusD w gl ds)) (hw:∀ c,X c→(∃ o v,w.cell? ⟨c,o,none⟩=some (.int .i64 v))→w2.heap[c]? = w.heap[c]?):GusD w2 gl ds:=
 ⟨(h w (fun _ _=>rfl)).len,fun k hk=>⟨((h w (fun _ _=>rfl)).at' k hk).e,IntsAt.onI (w:=w) (X:=X) (fun w' hw'=>((h w' hw').at' k hk).l) hw⟩⟩
theorem PicDt.onI {w w2:World}{X:Nat→Prop}{gv:List Gu}{gf:List (List Gu)}{vs:List Res}{fs:List (List Res)}(h:On w X (PicDt gv gf vs fs)) (hw:∀ c,X c→(∃ o v,w.cell? ⟨c,o,none⟩=some (.int .i64 v))→w2.heap[c]? = w.heap[c]?):PicDt gv gf vs fs w2:=
 ⟨GusD.onI (w:=w) (X:=X) (fun w' hw'=>(h w' hw').1) hw,(h w (fun _ _=>rfl)).2.len,fun k hk=>GusD.onI (w:=w) (X:=X) (fun w' hw'=>(h w' hw').2.at' k hk) hw⟩
theorem RowS.typ {E size:Nat}{p:Option Addr}{n cap:Nat}{xs:List Value}{R:List LBlk}(h:RowS E size p n cap xs R):∀ e∈R,e.2.1=E:=by
 intro e he
 rcases h.2 with⟨_,_,hR⟩|⟨g,cs,_,hR,_⟩
 ·subst hR;cases he
 ·subst hR;rw[List.mem_singleton.1 he]
theorem GRows.typ {rs:List Sl}{gf:List (List Gu)}{Rf:List LBlk}(h:GRows rs gf Rf):∀ e∈Rf,e.2.1=108:=by
 induction h with
 | nil=>intro e he;cases he
 | cons h hs ih=>intro e he;rcases List.mem_append.1 he with he|he;exact h.typ e he;exact ih e he
theorem GotP.aside {w w' : World}{r:Pv}{d:Pd}(g:GotP w w' r d) (hm:d.vars.length+d.fields.length≤9223372036854775807) {b:Nat}{cs:List Value}(hw:w.heap.size≤b) (hc:w'.heap[b]? = some (.cells cs.toArray 54 (0,0))) (hn:∀ (o:Nat) (v:Int),cs[o]? ≠some (Value.int .i64 v)):Loc w w' [(b,54,cs)] [fun w=>PicIs w r d]:=by
 obtain⟨gv,gf,rs,Rv,Rh,Rf,h1,h2,h3⟩:=g
 have hty:∀ e∈Rv++(Rf++Rh),e.1≠b:=fun e he heb=>by
  have h4:=h3.cells e he
  rw[heb,hc]at h4
  simp only[Option.some.injEq,Obj.cells.injEq]at h4
  have h5:=h4.2.1
  rcases List.mem_append.1 he with he|he
  ·rw[h2.vars.typ e he]at h5;exact absurd h5 (by decide)
  ·rcases List.mem_append.1 he with he|he
   ·rw[h2.rows.typ e he]at h5;exact absurd h5 (by decide)
   ·rw[h2.heads.typ e he]at h5;exact absurd h5 (by decide)
 have h4:Loc w w' ([(b,54,cs)]++(Rv++(Rf++Rh))) [PicDt gv gf d.vars d.fields]:=by
  refine⟨h3.below,?_,?_,?_,fun S hS=>?_⟩
  ·rw[List.singleton_append,List.map_cons,List.nodup_cons]
   refine⟨fun hmem=>?_,h3.nodup⟩
   obtain⟨e,he,heb⟩:=List.mem_map.1 hmem
   exact hty e he heb
  ·intro e he
   rcases List.mem_append.1 he with he|he
   ·rw[List.mem_singleton.1 he];exact hw
   ·exact h3.ids e he
  ·intro e he
   rcases List.mem_append.1 he with he|he
   ·rw[List.mem_singleton.1 he];exact hc
   ·exact h3.cells e he
  ·rw[List.mem_singleton.1 hS]
   obtain⟨X,hX,hO⟩:=h3.data _ List.mem_cons_self
   refine⟨fun c=>X c∧c≠b,fun c hx=>⟨(hX c hx.1).1,fun e he=>?_⟩,fun w2 hw2=>PicDt.onI hO fun c hx ⟨o,v,hov⟩=>hw2 c ⟨hx,fun e=>?_⟩⟩
   ·rcases List.mem_append.1 he with he|he
    ·rw[List.mem_singleton.1 he];exact fun e=>hx.2 e.symm
    ·exact(hX c hx.1).2 e he
   ·subst e
    exact hn o v (by simpa [World.cell?,hc] using hov)
 refine h4.facts fun w2 hr ht=>h2.is (B:=w.heap.size) ⟨h3.nodup,fun e he=>⟨h3.ids e he,hr e he⟩⟩ ht h1 hm
structure EdsW (evs:List EdV) (s:Sl) (es:List (Int × Pd)) (w:World):Prop where
 d:EdsD w evs es
 l:ListC w 4 s.p s.n (fun k=>EdV.cells (evs.getD k zeroE))
 n:s.n=es.length
 m:s.n≤maxLen
theorem edv_ext {e f:EdV}(h:∀ (j:Nat) (v:Value),(EdV.cells e)[j]? = some v→(EdV.cells f)[j]? = some v):e=f:=by
 obtain⟨eg,en,⟨e1,e2,e3⟩,⟨e4,e5,e6⟩⟩:=e
 obtain⟨fg,fn,⟨f1,f2,f3⟩,⟨f4,f5,f6⟩⟩:=f
 have h0:(Value.int .i64 fg)=.int .i64 eg:=Option.some.inj (h 0 _ rfl)
 have h1:(Value.bool fn)=.bool en:=Option.some.inj (h 1 _ rfl)
 have h2:(Value.slice f1 f2 f3)=.slice e1 e2 e3:=Option.some.inj (h 2 _ rfl)
 have h3:(Value.slice f4 f5 f6)=.slice e4 e5 e6:=Option.some.inj (h 3 _ rfl)
 simp only[Value.int.injEq,Value.bool.injEq,Value.slice.injEq,true_and]at h0 h1 h2 h3
 obtain⟨rfl,rfl,rfl⟩:=h2
 obtain⟨rfl,rfl,rfl⟩:=h3
 subst h0 h1
 rfl
theorem Loc.edsW {w0 w:World}{L:List LBlk}{D:List Datum}{s:Sl}{es:List (Int × Pd)}(h:Loc w0 w L ((fun w=>EdsIs w s es)::D)):∃ evs,Loc w0 w L (EdsW evs s es::D):=by
 obtain⟨X,hX,hO⟩:=h.data _ List.mem_cons_self
 obtain⟨hn,hm,evs,hd,hl⟩:=hO w (fun _ _=>rfl)
 refine⟨evs,h.below,h.nodup,h.ids,h.cells,fun S hS=>?_⟩
 rcases List.mem_cons.1 hS with rfl|hS
 ·refine⟨X,hX,fun w' hw'=>?_⟩
  obtain⟨-,-,evs',hd',hl'⟩:=hO w' hw'
  have he:∀ k,k<s.n→evs'.getD k zeroE=evs.getD k zeroE:=fun k hk=>by
   obtain⟨b,o,hp,hc⟩:=hl.ex
   obtain⟨b',o',hp',hc'⟩:=hl'.ex
   have e1:=hp (by omega)
   have e2:=hp' (by omega)
   rw[e1]at e2
   obtain⟨rfl,rfl⟩:b=b'∧o=o':=by simpa using e2
   have hXb:X b:=by
    apply Classical.byContradiction
    intro hx
    obtain⟨-,-,evs2,-,hl2⟩:=hO (eraseB w b) (fun c hc=>eraseB_other (fun e=>hx (by rw[← e];exact hc)))
    exact hl2.erased (by omega) e1 (fun e=>by cases e)
   have e3:=hw' b hXb
   refine edv_ext fun j v hj=>?_
   have h1:=(hc' k hk).2 j v hj
   have hj4:j<4:=(List.getElem?_eq_some_iff.1 hj).1
   obtain⟨u,hu⟩:∃ u,(EdV.cells (evs.getD k zeroE))[j]? = some u:=⟨_,List.getElem?_eq_getElem (show j<(EdV.cells (evs.getD k zeroE)).length from hj4)⟩
   have h2:=(hc k hk).2 j u hu
   rw[hu,← h1,← h2]
   simp only[World.cell?,e3]
  have hlen:evs'.length=evs.length:=by rw[hd'.len,hd.len]
  have hee:evs'=evs:=getD_ext zeroE hlen fun k hk=>he k (by rw[hn,← hd'.len];exact hk)
  rw[hee]at hd' hl'
  exact⟨hd',hl',hn,hm⟩
 ·exact h.data S (List.mem_cons_of_mem _ hS)
theorem PicG.grow {w w' : World}{x:Pv}{d:Pd}{gx:List Gu}(h:PicG w x d gx) (hb:Below w.heap.size w w'):PicG w' x d gx:=⟨h.1.grow hb,h.2.d.grow hb,h.2.l.grow hb⟩
theorem beginL_isG (nv nf pn:Nat) (r:Pv) (g:List Gu) (w:World) (h:PicG w r (firstP nv nf pn) g):PicsG (r::List.replicate pn nonePv) (g::List.replicate pn []) (beginL nv nf pn) w:=by
 intro k hk
 cases k with
 | zero=>exact h
 | succ k=>
  have hk2:k<pn:=by simpa [beginL] using hk
  rw[beginL_at,List.getD_cons_succ,List.getD_cons_succ,List.getD_eq_getElem?_getD,List.getD_eq_getElem?_getD,List.getElem?_replicate,List.getElem?_replicate,if_pos hk2,if_pos hk2]
  exact PicG.none w
def JoinR (wq:World) (x y:Pv) (d e dj:Pd):Value→World→Prop:=fun v w=>∃ r:Pv,v=.agg #[.bool r.none,.slice r.vars.p r.vars.n r.vars.cap,.slice r.fields.p r.fields.n r.fields.cap]∧((r=y∧dj=e)∨(r=x∧dj=d)∨GotP wq w r dj)
theorem JoinR.stable {wq:World}{x y:Pv}{d e dj:Pd}:Stable (JoinR wq x y d e dj):=by
 rintro v w w' hb ⟨r,h1,h2|h2|h2⟩
 ·exact⟨r,h1,.inl h2⟩
 ·exact⟨r,h1,.inr (.inl h2)⟩
 ·exact⟨r,h1,.inr (.inr (h2.grow hb))⟩
theorem Loc.join {w0 wq w:World}{L:List LBlk}{D:List Datum}(h:Loc w0 wq L D) (hb:Below wq.heap.size wq w) {b:Nat}(hbn:wq.heap.size≤b) (hbc:w.heap[b]? = some (.cells zeroPL.toArray 54 (0,0)))
  {S T:Datum} (hS:S∈D) (hT:T∈D) {r x y:Pv} {d e dj:Pd} (h1:∀ w,S w→PicIs w x d) (h2:∀ w,T w→PicIs w y e) (hm:dj.vars.length+dj.fields.length≤9223372036854775807)
  (hr:(r=y∧dj=e)∨(r=x∧dj=d)∨GotP wq w r dj):Loc w0 w (L++[(b,54,zeroPL)]) ((fun w=>PicIs w r dj)::D):=by
 have h0:Loc wq w [(b,54,zeroPL)] []:=(Loc.start wq).gain hb hbn hbc
 rcases hr with⟨rfl,rfl⟩|⟨rfl,rfl⟩|hr
 ·exact(h.gave h0).derive hT h2
 ·exact(h.gave h0).derive hS h1
 ·refine h.gave (GotP.aside hr hm hbn hbc fun o v=>?_)
  match o with
  | 0=>simp
  | 1=>simp
  | 2=>simp
  | o+3=>simp
theorem rjoin2_any (wd:Bool) (f:Span→Span→Span) (hf:∀ (s t:Span) (w:World),Calls Tryz.prog 119 #[s.v,t.v,.bool wd] w fun e w'=>e=.returned (f s t).v∧Below w.heap.size w w')
  (p:Pg) (is:Nat→Ins) (x y:Pv) (d e:Pd) (w:World) (hx:PicIs w x d) (hy:PicIs w y e) (hp:checkProg p is=0) (h:rightP p is d=0) (h' : rightP p is e=0):
  Calls Tryz.prog 57 #[x.v,y.v,.bool wd] w fun q w'=>∃ v,q=.returned v∧JoinR w x y d e (joinP f d e) v w'∧Below w.heap.size w w':=by
 have hs:=(prog_right hp).1
 cases hdn:d.none with
 | true=>
  have HQ:=Lib.hid (show joinP f d e=e by simp[joinP,hdn])
  have hxe:=hx.e
  rw[hdn]at hxe
  clear hx hy h h' hp hs hdn
  obtain⟨xn,⟨xp,xvn,xc⟩,⟨xfp,xfn,xfc⟩⟩:=x
  obtain⟨yn,⟨yp,yvn,yc⟩,⟨yfp,yfn,yfc⟩⟩:=y
  dsimp only at hxe
  subst hxe
  have hL:=Loc.start w
  go_enter Tryz.func57,Tryz.ntmps57
  go_wp2_with (first|(with_reducible first|refine lld hL ?_|((first|refine lbx hL ?_|refine lal hL ?_|refine lbs hL ?_);clear hL;intro bl w1 hL)|(refine lst' hL ?_;clear hL;intro w1 hL)))
  (try simp only[Exit.inBlock,Exit.then]);refine rt1 ?_
  exact⟨_,rfl,⟨⟨yn,⟨yp,yvn,yc⟩,⟨yfp,yfn,yfc⟩⟩,rfl,.inl ⟨rfl,HQ.out⟩⟩,hL.below⟩
 | false=>
  cases hen:e.none with
  | true=>
   have HQ:=Lib.hid (show joinP f d e=d by simp[joinP,hdn,hen])
   have hxe:=hx.e
   have hye:=hy.e
   rw[hdn]at hxe
   rw[hen]at hye
   clear hx hy h h' hp hs hdn hen
   obtain⟨xn,⟨xp,xvn,xc⟩,⟨xfp,xfn,xfc⟩⟩:=x
   obtain⟨yn,⟨yp,yvn,yc⟩,⟨yfp,yfn,yfc⟩⟩:=y
   dsimp only at hxe hye
   subst hxe hye
   have hL:=Loc.start w
   go_enter Tryz.func57,Tryz.ntmps57
   go_wp2_with (first|(with_reducible first|refine lld hL ?_|((first|refine lbx hL ?_|refine lal hL ?_|refine lbs hL ?_);clear hL;intro bl w1 hL)|(refine lst' hL ?_;clear hL;intro w1 hL)))
   (try simp only[Exit.inBlock,Exit.then]);refine rt1 ?_
   exact⟨_,rfl,⟨⟨false,⟨xp,xvn,xc⟩,⟨xfp,xfn,xfc⟩⟩,rfl,.inr (.inl ⟨rfl,HQ.out⟩)⟩,hL.below⟩
  | false=>
   have hq:joinP f d e=bothRaw f d e:=by simp[joinP,hdn,hen]
   rw[hq]
   refine(rjoin_raw wd f hf p x y d e w hx hy hdn hen (RightPd.of h hp hdn) (RightPd.of h' hp hen) hs).mono ?_
   rintro q w' ⟨r,h1,h2⟩
   exact⟨_,h1,⟨r,rfl,.inr (.inr h2)⟩,h2.below⟩
theorem rjoinW_any (wd:Bool) (s t:Span) (w:World):Calls Tryz.prog 119 #[s.v,t.v,.bool wd] w fun e w'=>e=.returned ((if wd=true then wider else both) s t).v∧Below w.heap.size w w':=by
 cases wd with
 | false=>exact rJoin_any s t w
 | true=>exact rWiden_any s t w
theorem same_join {p:Pg}{is:Nat→Ins}(hp:checkProg p is=0) {f:Span→Span→Span}(hf:Stays f) {d e:Pd}(hd:rightP p is d=0) (he:rightP p is e=0):samePd (joinP f d e) d=insideP e d:=by
 obtain⟨h1,h2⟩:=highP_both hp hf hd he
 rw[bothP_joinP hp hd he]at h1 h2
 cases hi:insideP e d with
 | true=>rw[h2 hi];exact samePd_iff.2 rfl
 | false=>
  cases hs:samePd (joinP f d e) d with
  | false=>rfl
  | true=>
   have:=h1 hi
   rw[samePd_iff.1 hs]at this
   omega
theorem nxtS_ref {p:Pg}{is:Nat→Ins}(hp:checkProg p is=0) {nb:Bool}{i:Nat}{x:Int × Pd}{s:List Pd × Bool}(h:PicsOk p is s.1) (h1:rightP p is x.2=0) (h2:0≤x.1∧x.1≤p.n):
  nxtS nb i x s=if samePd (joinP (if (nb&&decide (x.1≤i))=true then wider else both) (s.1.getD x.1.toNat nonePd) x.2) (s.1.getD x.1.toNat nonePd)=true then s else (s.1.set x.1.toNat (joinP (if (nb&&decide (x.1≤i))=true then wider else both) (s.1.getD x.1.toNat nonePd) x.2),true):=by
 have hst:Stays (if (nb&&decide (x.1≤i))=true then wider else both):=by
  split
  ·exact stays_wider
  ·exact stays_both
 have hr:=h.r x.1.toNat (by omega)
 rw[same_join hp hst hr h1,← bothP_joinP hp hr h1]
 rfl
end Go.Proofs.YtplcndmdkabmeaaGreatDoor
