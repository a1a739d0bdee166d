import Derived.Test.YteoilpcbekijlaaGreatDoorSoundF
import Derived.Test.YteoilpcbekijlaaGreatDoorSolF
set_option linter.unusedSimpArgs false
set_option linter.unusedVariables false
set_option maxRecDepth 100000
namespace Go.Proofs.YteoilpcbekijlaaGreatDoor
open Go.RowKit
def NullsP (d:Pd):Prop:=d.none=false∧∀ k,k<d.vars.length→(d.var k).null=true
theorem nulls_in {p:Pg}{is:Nat→Ins}{d:Pd}{nv nf:Nat}(hv:p.vars=nv) (hf:p.fields=nf) (h:rightP p is d=0) (hn:NullsP d):insideP (firstP nv nf p.n) d=true:=by
 have ok:=OkPd.of h hn.1
 have hl:d.vars.length=nv:=by have:=ok.vars;omega
 have hfl:=ok.fields
 have hin:∀ (b:Bool) (g:Res),(b=true→g.null=true)→insideD ⟨b,noSpan,false,false,[]⟩ g=true:=fun b g hb=>by
  rw[insideD_iff]
  refine⟨?_,rfl,rfl,rfl,rfl⟩
  cases b with
  | false=>rfl
  | true=>rw[hb rfl];rfl
 unfold insideP
 rw[show (firstP nv nf p.n).none=false from rfl,hn.1,if_neg (by decide)]
 have h1:insideRow (firstP nv nf p.n).vars d.vars=true:=by
  unfold insideRow
  rw[show (firstP nv nf p.n).vars.length=nv from List.length_replicate,hl]
  simp only[equalN,BEq.rfl,Bool.true_and,Bool.not_eq_true']
  refine anyN_no fun k hk=>?_
  have e:(firstP nv nf p.n).vars.getD k zeroD=nullD:=by simp[firstP,List.getD_eq_getElem?_getD,hk]
  rw[e,hin true _ (fun _=>hn.2 k (by omega))];rfl
 have h2:insideRows (firstP nv nf p.n).fields d.fields=true:=by
  unfold insideRows
  rw[show (firstP nv nf p.n).fields.length=p.n from List.length_replicate,hfl]
  simp only[equalN,BEq.rfl,Bool.true_and,Bool.not_eq_true']
  refine anyN_no fun k hk=>?_
  have e:(firstP nv nf p.n).fields.getD k []=List.replicate nf nothD:=by simp[firstP,List.getD_eq_getElem?_getD,hk]
  have hr:(d.fields.getD k []).length=nf:=by have:((d.fields.getD k []).length:Int)=p.fields:=ok.rows k hk;omega
  have h3:insideRow (List.replicate nf nothD) (d.fields.getD k [])=true:=by
   unfold insideRow
   rw[List.length_replicate,hr]
   simp only[equalN,BEq.rfl,Bool.true_and,Bool.not_eq_true']
   refine anyN_no fun j hj=>?_
   have e2:(List.replicate nf nothD).getD j zeroD=nothD:=by simp[List.getD_eq_getElem?_getD,hj]
   rw[e2,hin false _ (fun q=>by cases q)];rfl
  rw[e,h3];rfl
 rw[h1,h2];rfl
theorem NullsP.both {p:Pg}{is:Nat→Ins}{f:Span→Span→Span}{d e:Pd}(hp:checkProg p is=0) (hd:rightP p is d=0) (h:NullsP d):NullsP (bothP f d e):=by
 unfold bothP
 rw[h.1,if_neg (by decide)]
 cases e.none with
 | true=>
  rw[if_pos rfl,bothRaw_self (RightPd.of hd hp h.1) h.1]
  exact h
 | false=>
  rw[if_neg (by decide)]
  refine⟨rfl,fun k hk=>?_⟩
  have hk' : k<d.vars.length:=by simpa [bothRaw,bothRow,bothTo] using hk
  have e1:(bothRaw f d e).var k=bothD f (d.var k) (e.var k):=bothTo_at f _ _ k _ hk'
  rw[e1]
  show ((d.var k).null || (e.var k).null)=true
  rw[h.2 k hk'];rfl
abbrev KeptL (p:Pg) (is:Nat→Ins) (s:List Pd × Bool):Prop:=PicsOk p is s.1∧NullsP (s.1.getD 0 nonePd)
theorem KeptL.next {p:Pg}{is:Nat→Ins}(hp:checkProg p is=0) {nb:Bool}{i:Nat}{x:Int × Pd}{s:List Pd × Bool}(h:KeptL p is s) (h1:rightP p is x.2=0) (h2:0≤x.1∧x.1≤p.n):KeptL p is (nxtS nb i x s):=by
 refine⟨h.1.next hp h1 h2,?_⟩
 unfold nxtS
 split
 ·exact h.2
 ·have hl:0<s.1.length:=by have:=h.1.len;omega
  show NullsP ((s.1.set _ _).getD 0 nonePd)
  rcases Nat.lt_or_ge x.1.toNat s.1.length with hx|hx
  ·rw[getD_set _ _ _ _ _ hx]
   split
   ·rename_i q
    rw[← q]
    exact h.2.both hp (h.1.r 0 (Nat.zero_le _))
   ·exact h.2
  ·rw[List.set_eq_of_length_le hx];exact h.2
theorem KeptL.fold {p:Pg}{is:Nat→Ins}(hp:checkProg p is=0) {nb:Bool}{i:Nat}:∀ (es:List (Int × Pd)) (s:List Pd × Bool),KeptL p is s→(∀ x∈es,(0≤x.1∧x.1≤p.n)∧rightP p is x.2=0)→KeptL p is (es.foldl (fun s x=>nxtS nb i x s) s)
 | [],_,h,_=>h
 | x::es,s,h,hx=>KeptL.fold hp es _ (h.next hp (hx x List.mem_cons_self).2 (hx x List.mem_cons_self).1) (fun y hy=>hx y (List.mem_cons_of_mem _ hy))
theorem KeptL.all {p:Pg}{is:Nat→Ins}(hp:checkProg p is=0) {nb:Bool}{s:List Pd × Bool}(h:KeptL p is s):∀ k,k≤p.n→KeptL p is (allEdges is (nxtS nb) Prod.fst k s)
 | 0,_=>h
 | k+1,hk=>by
  have h1:=KeptL.all hp (nb:=nb) h k (by omega)
  rw[allEdges_next]
  exact KeptL.fold hp _ _ h1 (rawD_fits hp (h1.1.r k (by omega)) (by omega))
theorem kept_sol {p:Pg}{is:Nat→Ins}(hp:checkProg p is=0) {l:List Pd}(h:KeptL p is (l,false)):∀ k,KeptL p is (solN is p.n l k,false)
 | 0=>h
 | k+1=>by
  have h1:=KeptL.all hp (nb:=decide (3<k+1)) (kept_sol hp h k) p.n (Nat.le_refl _)
  exact⟨h1.1,h1.2⟩
theorem fold_calm {nb:Bool}{i:Nat}:∀ (es:List (Int × Pd)) (s:List Pd × Bool),(es.foldl (fun s x=>nxtS nb i x s) s).2=false→es.foldl (fun s x=>nxtS nb i x s) s=s∧∀ x∈es,insideP x.2 (s.1.getD x.1.toNat nonePd)=true
 | [],s,_=>⟨rfl,fun x hx=>by cases hx⟩
 | x::es,s,h=>by
  rw[List.foldl_cons]at h ⊢
  obtain⟨h1,h2⟩:=fold_calm es (nxtS nb i x s) h
  rw[h1]at h
  by_cases hi:insideP x.2 (s.1.getD x.1.toNat nonePd)=true
  ·have e:nxtS nb i x s=s:=if_pos hi
   rw[e]at h1 h2 ⊢
   refine⟨h1,fun y hy=>?_⟩
   rcases List.mem_cons.1 hy with rfl|hy
   ·exact hi
   ·exact h2 y hy
  ·have e:(nxtS nb i x s).2=true:=by unfold nxtS;rw[if_neg hi]
   rw[e]at h;cases h
theorem all_calm {is:Nat→Ins}{nb:Bool}{l:List Pd}:∀ k:Nat,(allEdges is (nxtS nb) Prod.fst k (l,false)).2=false→allEdges is (nxtS nb) Prod.fst k (l,false)=(l,false)∧∀ i,i<k→∀ x∈(rawD is i (l.getD i nonePd)).es,insideP x.2 (l.getD x.1.toNat nonePd)=true
 | 0,_=>⟨rfl,fun i hi=>absurd hi (Nat.not_lt_zero i)⟩
 | k+1,h=>by
  rw[allEdges_next]at h ⊢
  unfold stepAt at h ⊢
  obtain⟨h1,h2⟩:=fold_calm _ _ h
  rw[h1]at h
  obtain⟨h3,h4⟩:=all_calm k h
  rw[h3]at h1 h2 ⊢
  refine⟨h1,fun i hi=>?_⟩
  rcases Nat.lt_or_ge i k with hik|hik
  ·exact h4 i hik
  ·obtain rfl:i=k:=by omega
   exact h2
theorem sol_fits {p:Pg}{is:Nat→Ins}{nv nf k:Nat}(hp:checkProg p is=0) (hv:p.vars=nv) (hf:p.fields=nf) (hE:EndsN is p.n (beginL nv nf p.n) k):
  PicsOk p is (solN is p.n (beginL nv nf p.n) (k+1))∧fitsS is p.n (solN is p.n (beginL nv nf p.n) (k+1)) (firstP nv nf p.n)=true:=by
 have h0:KeptL p is (beginL nv nf p.n,false):=by
  refine⟨beginL_ok hv hf,rfl,fun j hj=>?_⟩
  have hj' : j<nv:=by simpa [beginL,firstP] using hj
  show ((List.replicate nv nullD).getD j zeroD).null=true
  simp[List.getD_eq_getElem?_getD,hj']
 have hk:=kept_sol hp h0 k
 have hs:=solN_same hp (beginL_ok hv hf) hE.1
 have hc:=all_calm (is:=is) (nb:=decide (3<k+1)) (l:=solN is p.n (beginL nv nf p.n) k) p.n hE.1
 rw[hs]
 refine⟨hk.1,?_⟩
 unfold fitsS
 rw[fitsE_iff.2 hc.2,nulls_in hv hf (hk.1.r 0 (Nat.zero_le _)) hk.2]
 rfl
end Go.Proofs.YteoilpcbekijlaaGreatDoor
