import Derived.Test.YteoilpcbekijlaaGreatDoorPica
set_option linter.unusedSimpArgs false
set_option linter.unusedVariables false
set_option maxRecDepth 100000
namespace Go.Proofs.YteoilpcbekijlaaGreatDoor
open Go.RowKit
def eraseB (w:World) (b:Nat):World:={ w with heap:=w.heap.setIfInBounds b (.cells #[] 0 (0,0)) }
theorem eraseB_other {w:World}{b c:Nat}(h:c≠b):(eraseB w b).heap[c]? = w.heap[c]? :=by
 simp[eraseB,Array.getElem?_setIfInBounds,Ne.symm h]
theorem eraseB_none (w:World) (b o:Nat):(eraseB w b).cell? ⟨b,o,none⟩=none:=by
 unfold World.cell?
 show (match (w.heap.setIfInBounds b (.cells #[] 0 (0,0)))[b]? with
  | some (.cells c _ _)=>if (none:Option _).isSome then none else c[o]?
  | _=>none)=none
 rw[Array.getElem?_setIfInBounds]
 by_cases h:b<w.heap.size
 ·simp[h]
 ·simp[h]
theorem eraseB_cell {w:World}{b c o:Nat}(h:c≠b):(eraseB w b).cell? ⟨c,o,none⟩=w.cell? ⟨c,o,none⟩:=by
 simp only[World.cell?,eraseB_other h]
def IsCells (w:World) (b:Nat):Prop:=∃ (cs:Array Value) (T:TypeId) (f:Nat × Nat),w.heap[b]? = some (.cells cs T f)
theorem isCells_of {w:World}{b o:Nat}{v:Value}(h:w.cell? ⟨b,o,none⟩=some v):IsCells w b:=by
 unfold World.cell? at h
 dsimp only at h
 split at h
 ·rename_i c T f hc;exact⟨c,T,f,hc⟩
 ·cases h
theorem cell_lt' {w:World}{b o:Nat}{v:Value}(h:w.cell? ⟨b,o,none⟩=some v):b<w.heap.size:=by
 obtain⟨_,_,_,h1⟩:=isCells_of h
 exact heap_lt h1
section
variable {w w' : World} {X : Nat → Prop}
theorem ListC.on {es:Nat}{p:Option Addr}{n:Nat}{cells:Nat→List Value}(h:ListC w es p n cells) (hne:∀ k,k<n→cells k≠[]) (hX:∀ b o,0<n→p=some ⟨b,o,none⟩→X b)
  (hw:∀ b,X b→IsCells w b→w'.heap[b]? = w.heap[b]?):ListC w' es p n cells:=by
 obtain⟨b,o,hp,hc⟩:=h.ex
 refine⟨b,o,hp,fun k hk=>?_⟩
 obtain⟨h1,h2⟩:=hc k hk
 have hb:IsCells w b:=by
  cases hcs:cells k with
  | nil=>exact absurd hcs (hne k hk)
  | cons v l=>exact isCells_of (h2 0 v (by rw[hcs];rfl))
 have he:=hw b (hX b o (by omega) (hp (by omega))) hb
 have e2:∀ j,w'.cell? ⟨b,j,none⟩=w.cell? ⟨b,j,none⟩:=fun j=>by simp only[World.cell?,he]
 refine⟨?_,fun j v hj=>by rw[e2];exact h2 j v hj⟩
 obtain⟨cs,T,f,h3⟩:=hb
 rw[h3]at he
 exact heap_lt he
theorem ListC.erased {es:Nat}{p:Option Addr}{n:Nat}{cells:Nat→List Value}{b o:Nat}(h:ListC (eraseB w b) es p n cells) (hn:0<n) (hp:p=some ⟨b,o,none⟩) (hne:cells 0≠[]):False:=by
 obtain⟨b',o',hp',hc⟩:=h.ex
 have h1:=hp' hn
 rw[hp]at h1
 obtain⟨rfl,rfl⟩:b=b'∧o=o':=by simpa using h1
 cases hcs:cells 0 with
 | nil=>exact hne hcs
 | cons v l=>
  have h2:=(hc 0 hn).2 0 v (by rw[hcs];rfl)
  rw[eraseB_none]at h2
  cases h2
theorem ListC.same {es:Nat}{p:Option Addr}{n:Nat}{c1 c2:Nat→List Value}{b:Nat}(h:ListC w es p n c1) (h' : ListC (eraseB w b) es p n c2) (hn:∀ o,p≠some ⟨b,o,none⟩) {k j:Nat}(hk:k<n) {u v:Value}(hu:(c1 k)[j]? = some u) (hv:(c2 k)[j]? = some v):u=v:=by
 obtain⟨b1,o1,hp1,hc1⟩:=h.ex
 obtain⟨b2,o2,hp2,hc2⟩:=h'.ex
 have e1:=hp1 (by omega)
 have e2:=hp2 (by omega)
 rw[e1]at e2
 obtain⟨rfl,rfl⟩:b1=b2∧o1=o2:=by simpa using e2
 have hne:b1≠b:=fun e=>hn o1 (by rw[e1,e])
 have h1:=(hc1 k hk).2 j u hu
 have h2:=(hc2 k hk).2 j v hv
 rw[eraseB_cell hne,h1]at h2
 exact Option.some.inj h2
theorem IntsAt.on {s:Sl}{l:List Int}(h:IntsAt w s l) (hX:∀ b o,0<s.n→s.p=some ⟨b,o,none⟩→X b) (hw:∀ b,X b→IsCells w b→w'.heap[b]? = w.heap[b]?):IntsAt w' s l:=
 ⟨h.n,h.m,h.at'.on (fun _ _ e=>by cases e) hX hw⟩
theorem RowIs.on {s:Sl}{ds:List Res}(h:RowIs w s ds) (hE:∀ b,¬ X b→RowIs (eraseB w b) s ds) (hw:∀ b,X b→IsCells w b→w'.heap[b]? = w.heap[b]?):RowIs w' s ds:=by
 obtain⟨h1,h2,ss,h3,h4⟩:=h
 have hb:∀ b o,0<s.n→s.p=some ⟨b,o,none⟩→X b:=fun b o hn hp=>by
  apply Classical.byContradiction
  intro hx
  obtain⟨_,_,ss',h3',_⟩:=hE b hx
  exact h3'.erased hn hp (fun e=>by cases e)
 refine⟨h1,h2,ss,h3.on (fun _ _ e=>by cases e) hb hw,fun k hk=>(h4 k hk).on (fun b o hn hp=>?_) hw⟩
 apply Classical.byContradiction
 intro hx
 obtain⟨_,_,ss',h3',h4'⟩:=hE b hx
 have hne:∀ o,s.p≠some ⟨b,o,none⟩:=fun o e=>hx (hb b o (by omega) e)
 have e:(Value.slice (ss k).p (ss k).n (ss k).cap)=.slice (ss' k).p (ss' k).n (ss' k).cap:=h3.same h3' hne hk (j:=6) rfl rfl
 obtain⟨e1,e2,_⟩:(ss k).p=(ss' k).p∧(ss k).n=(ss' k).n∧(ss k).cap=(ss' k).cap:=by simpa using e
 exact(h4' k hk).at'.erased (by omega) (by rw[← e1];exact hp) (fun e=>by cases e)
theorem RowsIs.on {s:Sl}{dss:List (List Res)}(h:RowsIs w s dss) (hE:∀ b,¬ X b→RowsIs (eraseB w b) s dss) (hw:∀ b,X b→IsCells w b→w'.heap[b]? = w.heap[b]?):RowsIs w' s dss:=by
 obtain⟨h1,h2,rs,h3,h4⟩:=h
 have hb:∀ b o,0<s.n→s.p=some ⟨b,o,none⟩→X b:=fun b o hn hp=>by
  apply Classical.byContradiction
  intro hx
  obtain⟨_,_,rs',h3',_⟩:=hE b hx
  exact h3'.erased hn hp (fun e=>by cases e)
 refine⟨h1,h2,rs,h3.on (fun _ _ e=>by cases e) hb hw,fun k hk=>(h4 k hk).on (fun b hx=>?_) hw⟩
 obtain⟨_,_,rs',h3',h4'⟩:=hE b hx
 have hne:∀ o,s.p≠some ⟨b,o,none⟩:=fun o e=>hx (hb b o (by omega) e)
 have e:(Value.slice (rs k).p (rs k).n (rs k).cap)=.slice (rs' k).p (rs' k).n (rs' k).cap:=h3.same h3' hne hk (j:=0) rfl rfl
 obtain⟨e1,e2,e3⟩:(rs k).p=(rs' k).p∧(rs k).n=(rs' k).n∧(rs k).cap=(rs' k).cap:=by simpa using e
 have e4:rs k=rs' k:=by
  generalize rs k=a at *
  generalize rs' k=b at *
  obtain⟨a1,a2,a3⟩:=a
  obtain⟨b1,b2,b3⟩:=b
  dsimp only at e1 e2 e3
  subst e1 e2 e3
  rfl
 rw[e4]
 exact h4' k hk
theorem PicIs.on {x:Pv}{d:Pd}(h:On w X (fun w=>PicIs w x d)) (hw:∀ b,X b→IsCells w b→w'.heap[b]? = w.heap[b]?):PicIs w' x d:=by
 have h0:=h w (fun _ _=>rfl)
 have hE:∀ b,¬ X b→PicIs (eraseB w b) x d:=fun b hx=>h _ (fun c hc=>eraseB_other (fun e=>hx (by rw[← e];exact hc)))
 exact⟨h0.e,h0.vars.on (fun b hx=>(hE b hx).vars) hw,h0.fields.on (fun b hx=>(hE b hx).fields) hw,h0.m⟩
end
end Go.Proofs.YteoilpcbekijlaaGreatDoor
