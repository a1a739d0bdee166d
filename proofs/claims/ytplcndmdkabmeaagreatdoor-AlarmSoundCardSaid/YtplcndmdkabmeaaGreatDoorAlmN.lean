/-  -/
import Derived.Test.YtplcndmdkabmeaaGreatDoorSoundS
import Derived.Test.YtplcndmdkabmeaaGreatDoorSolI
import Derived.Test.YtplcndmdkabmeaaGreatDoorKep
import Derived.Test.YtplcndmdkabmeaaGreatDoorAlmS
set_option linter.unusedSimpArgs false
set_option linter.unusedVariables false
set_option maxRecDepth 100000
namespace Go.Proofs.YtplcndmdkabmeaaGreatDoor
open Go.RowKit
def SitesR (p:Pg) (is:Nat→Ins) (s:Rs):Prop:=∀ x∈s.things,isSite p is x.1=true
theorem SitesR.at' {p:Pg}{is:Nat→Ins}{s:Rs}(h:SitesR p is s) (k:Nat) (hk:k<s.things.length):isSite p is (s.thing k).1=true:=h _ (getD_mem hk)
theorem SitesR.like {p:Pg}{is:Nat→Ins}{s t:Rs}(h:SitesR p is s) (h2:t.things=s.things):SitesR p is t:=by unfold SitesR;rw[h2];exact h
theorem SitesR.cond {p:Pg}{is:Nat→Ins}{a b:Rs}{c:Prop} [Decidable c] (h1:c→SitesR p is a) (h2:SitesR p is b):SitesR p is (if c then a else b):=by
 split
 ·exact h1 (by assumption)
 ·exact h2
theorem sites_put {p:Pg}{is:Nat→Ins}{s:Rs}(h:SitesR p is s) (kk f:Nat) (v:Vl):SitesR p is (putS kk f v s):=by
 intro x hx
 rcases Nat.lt_or_ge kk s.things.length with hk|hk
 ·rcases mem_set hx with rfl|hx
  ·exact h.at' kk hk
  ·exact h x hx
 ·have:(putS kk f v s).things=s.things:=List.set_eq_of_length_le hk
  rw[this]at hx
  exact h x hx
theorem sites_create {p:Pg}{is:Nat→Ins}{s:Rs}(h:SitesR p is s) (hs:isSite p is s.at'=true) (t m:Nat):SitesR p is (createS t m s):=by
 unfold createS
 refine .cond (fun _=>h.like rfl) ?_
 intro x hx
 rcases List.mem_append.1 hx with hx|hx
 ·exact h x hx
 ·rw[List.mem_singleton.1 hx];exact hs
theorem stepI_sites {p:Pg}{is:Nat→Ins}{ins:Sl}{xs:Nat→Int}{s:Rs}(h:SitesR p is s) {m:Nat}(hm:s.at'=m) (hmn:m<p.n):SitesR p is (stepI p ins xs (is m) s):=by
 have hs:(is m).kind=11→isSite p is s.at'=true:=fun hk=>by rw[hm];simp[isSite,hmn,hk]
 generalize is m=i at hs
 unfold stepI countS takeS onwardS
 repeat' first
  | exact h.like rfl
  | exact sites_put h _ _ _
  | exact fun _=>h.like rfl
  | exact fun _=>sites_put h _ _ _
  | exact fun hk=>sites_create h (hs hk) _ _
  | refine SitesR.cond ?_ ?_
  | refine fun _=>SitesR.cond ?_ ?_
def Halts (s t:Rs):Prop:=t.ending≠0→t.at'=s.at'∧t.vars=s.vars∧t.things=s.things
theorem Halts.cond {s a b:Rs}{c:Prop} [Decidable c] (h1:Halts s a) (h2:Halts s b):Halts s (if c then a else b):=by split<;>assumption
theorem stepI_halts {p:Pg}{ins:Sl}{xs:Nat→Int}{s:Rs}(he:s.ending=0) (i:Ins):Halts s (stepI p ins xs i s):=by
 unfold stepI countS takeS onwardS createS putS
 repeat' first
  | exact fun h=>absurd he h
  | exact fun _=>⟨rfl,rfl,rfl⟩
  | refine Halts.cond ?_ ?_
def EndR (t:Rs):Prop:=0≤t.ending∧t.ending≤5
theorem EndR.cond {a b:Rs}{c:Prop} [Decidable c] (h1:EndR a) (h2:EndR b):EndR (if c then a else b):=by split<;>assumption
theorem stepI_end {p:Pg}{ins:Sl}{xs:Nat→Int}{s:Rs}(he:EndR s) (i:Ins):EndR (stepI p ins xs i s):=by
 unfold stepI countS takeS onwardS createS putS
 repeat' first
  | exact he
  | exact(by decide:(0:Int)≤1∧(1:Int)≤5)
  | exact(by decide:(0:Int)≤2∧(2:Int)≤5)
  | exact(by decide:(0:Int)≤3∧(3:Int)≤5)
  | exact(by decide:(0:Int)≤5∧(5:Int)≤5)
  | refine EndR.cond ?_ ?_
theorem showOk_of {p:Pg}{is:Nat→Ins}{d:Pd}{s:Rs}(hd:OkPd p is d) (hR:RightS p s) (hst:SitesR p is s):ShowOk d s:=by
 refine⟨by have:=hd.vars;have:=hR.nv;omega,fun k hk=>?_,hR.vals,hR.fvals⟩
 obtain⟨m,h2,h3,_⟩:=isSite_nat (hst.at' k hk)
 have h4:=hd.rows m h3
 have h5:=hR.nf k hk
 exact⟨m,h2,by rw[hd.fields];exact h3,by omega⟩
theorem shows_in {p:Pg}{is:Nat→Ins}{d e:Pd}{s:Rs}(hP:checkProg p is=0) (hd:rightP p is d=0) (he:rightP p is e=0) (hR:RightS p s) (hst:SitesR p is s) (hi:insideP d e=true) (h:Shows d s):Shows e s:=by
 have h1:=shows_both' puts_both hP hd he (fun hn=>showOk_of (OkPd.of he hn) hR hst) (shows_iff.2 h) (showOk_of (OkPd.of hd h.n) hR hst)
 rw[(highP_both hP stays_both he hd).2 hi]at h1
 exact shows_iff.1 h1
structure Kept (p:Pg) (is:Nat→Ins) (l:List Pd) (s:Rs) (n:Nat):Prop where
 g:Gone p s n
 st:SitesR p is s
 e:EndR s
 sh:Shows (l.getD s.at'.toNat nonePd) s
theorem Kept.begin {p:Pg}{is:Nat→Ins}{l:List Pd}{nv nf:Nat}(hv:p.vars=nv) (hf:p.fields=nf) (hP:checkProg p is=0) (hl:∀ k,k≤p.n→rightP p is (l.getD k nonePd)=0) (hi:insideP (firstP nv nf p.n) (l.getD 0 nonePd)=true):Kept p is l (beginS nv) 0:=by
 have hg:=Gone.begin (p:=p) hv (Int.natCast_nonneg _)
 have hst:SitesR p is (beginS nv):=fun x hx=>by cases hx
 refine⟨hg,hst,(by decide:(0:Int)≤0∧(0:Int)≤5),shows_in hP (first_right hv hf) (hl 0 (Nat.zero_le _)) hg.r hst hi ⟨rfl,fun k hk=>?_,fun k hk=>absurd hk (Nat.not_lt_zero k)⟩⟩
 have hk' : k<nv:=by simpa [beginS] using hk
 have e1:(firstP nv nf p.n).var k=nullD:=by simp[firstP,Pd.var,List.getD_eq_getElem?_getD,hk']
 have e2:(beginS nv).val k=dV:=by simp[beginS,List.getD_eq_getElem?_getD,hk']
 rw[e1,e2]
 rfl
theorem Kept.next {p:Pg}{is:Nat→Ins}{ins:Sl}{xs:Nat→Int}{l:List Pd}{s:Rs}{n:Nat}(h:Kept p is l s n) (hP:checkProg p is=0) (hl:∀ k,k≤p.n→rightP p is (l.getD k nonePd)=0) (hf:fitsE is p.n l=true) (hn:n≤5000) (he:s.ending=0):Kept p is l (stepM p is ins xs s) (n+1):=by
 have hg:=h.g.next (is:=is) (ins:=ins) (xs:=xs) hP hn
 have ha:=h.g.r.a
 by_cases hat:s.at'=p.n
 ·rw[show stepM p is ins xs s={ s with ending:=1 } from if_pos hat]at hg ⊢
  exact⟨hg,h.st.like rfl,⟨by show (0:Int)≤1;decide,by show (1:Int)≤5;decide⟩,h.sh.like rfl rfl⟩
 obtain⟨m,hm⟩:∃ m:Nat,s.at'=m:=⟨s.at'.toNat,by omega⟩
 have hmn:m<p.n:=by omega
 have e:stepM p is ins xs s=stepI p ins xs (is m) s:=by rw[stepM,if_neg hat,hm];rfl
 rw[e]at hg ⊢
 have hst:=stepI_sites (ins:=ins) (xs:=xs) h.st hm hmn
 refine⟨hg,hst,stepI_end h.e _,?_⟩
 have hsh:=h.sh
 rw[hm,Int.toNat_natCast]at hsh
 by_cases hz:(stepI p ins xs (is m) s).ending=0
 ·have hs:=step_sound (ins:=ins) (xs:=xs) hP (OkPd.of (hl m (by omega)) hsh.n) h.g.r hsh he hm hmn
  obtain⟨d,h1,h2⟩:=hs.e hz
  have hraw:rawD is m (l.getD m nonePd)=stepD (is m) m (l.getD m nonePd):=by unfold rawD;rw[hsh.n,if_neg (by decide)]
  rw[← hraw]at h1
  have h3:=fitsE_iff.1 hf m hmn _ h1
  have h4:=rawD_fits hP (hl m (by omega)) hmn _ h1
  dsimp only at h3 h4
  exact shows_in hP h4.2 (hl _ (by omega)) hg.r hst h3 h2
 ·obtain⟨a1,a2,a3⟩:=stepI_halts (p:=p) (ins:=ins) (xs:=xs) he (is m) hz
  rw[a1,hm,Int.toNat_natCast]
  exact hsh.like a2 a3
theorem kept_run {p:Pg}{is:Nat→Ins}{ins:Sl}{xs:Nat→Int}{l:List Pd}(hP:checkProg p is=0) (hl:∀ k,k≤p.n→rightP p is (l.getD k nonePd)=0) (hf:fitsE is p.n l=true):∀ (f:Nat) (s:Rs) (n:Nat),n+f≤5000→Kept p is l s n→∃ m,Kept p is l (runN p is ins xs f s n).1 m
 | 0,s,n,_,h=>⟨n,h⟩
 | f+1,s,n,hn,h=>by
  rw[runN]
  split
  ·rename_i he
   exact kept_run hP hl hf f _ _ (by omega) (h.next hP hl hf (by omega) he)
  ·exact⟨n,h⟩
theorem fit_shows {p:Pg}{is:Nat→Ins}{ins:Sl}{xs:Nat→Int}{l:List Pd}{nv nf:Nat}(hv:p.vars=nv) (hf:p.fields=nf) (hP:checkProg p is=0) (hl:∀ k,k≤p.n→rightP p is (l.getD k nonePd)=0) (hfit:fitsS is p.n l (firstP nv nf p.n)=true) {fuel:Nat}(hfu:fuel≤5000):
  ∃ m,Kept p is l (outS (runN p is ins xs fuel (beginS nv) 0).1) m:=by
 unfold fitsS at hfit
 rw[Bool.and_eq_true]at hfit
 obtain⟨m,h⟩:=kept_run (ins:=ins) (xs:=xs) hP hl hfit.1 fuel (beginS nv) 0 (by omega) (.begin hv hf hP hl hfit.2)
 refine⟨m,?_⟩
 unfold outS
 split
 ·exact⟨⟨h.g.r.ended 4,h.g.k,h.g.l⟩,h.st.like rfl,⟨by show (0:Int)≤4;decide,by show (4:Int)≤5;decide⟩,h.sh.like rfl rfl⟩
 ·exact h
end Go.Proofs.YtplcndmdkabmeaaGreatDoor
set_option linter.unusedSimpArgs false
set_option linter.unusedVariables false
set_option maxRecDepth 100000
namespace Go.Proofs.YtplcndmdkabmeaaGreatDoor
open Go.RowKit
def NullsP (d:Pd):Prop:=d.none=false∧∀ k,k<d.vars.length→(d.var k).null=true
theorem nulls_in {p:Pg}{is:Nat→Ins}{d:Pd}{nv nf:Nat}(hv:p.vars=nv) (hf:p.fields=nf) (h:rightP p is d=0) (hn:NullsP d):insideP (firstP nv nf p.n) d=true:=by
 have ok:=OkPd.of h hn.1
 have hl:d.vars.length=nv:=by have:=ok.vars;omega
 have hfl:=ok.fields
 have hin:∀ (b:Bool) (g:Res),(b=true→g.null=true)→insideD ⟨b,noSpan,false,false,[]⟩ g=true:=fun b g hb=>by
  rw[insideD_iff]
  refine⟨?_,rfl,rfl,rfl,rfl⟩
  cases b with
  | false=>rfl
  | true=>rw[hb rfl];rfl
 unfold insideP
 rw[show (firstP nv nf p.n).none=false from rfl,hn.1,if_neg (by decide)]
 have h1:insideRow (firstP nv nf p.n).vars d.vars=true:=by
  unfold insideRow
  rw[show (firstP nv nf p.n).vars.length=nv from List.length_replicate,hl]
  simp only[equalN,BEq.rfl,Bool.true_and,Bool.not_eq_true']
  refine anyN_no fun k hk=>?_
  have e:(firstP nv nf p.n).vars.getD k zeroD=nullD:=by simp[firstP,List.getD_eq_getElem?_getD,hk]
  rw[e,hin true _ (fun _=>hn.2 k (by omega))];rfl
 have h2:insideRows (firstP nv nf p.n).fields d.fields=true:=by
  unfold insideRows
  rw[show (firstP nv nf p.n).fields.length=p.n from List.length_replicate,hfl]
  simp only[equalN,BEq.rfl,Bool.true_and,Bool.not_eq_true']
  refine anyN_no fun k hk=>?_
  have e:(firstP nv nf p.n).fields.getD k []=List.replicate nf nothD:=by simp[firstP,List.getD_eq_getElem?_getD,hk]
  have hr:(d.fields.getD k []).length=nf:=by have:((d.fields.getD k []).length:Int)=p.fields:=ok.rows k hk;omega
  have h3:insideRow (List.replicate nf nothD) (d.fields.getD k [])=true:=by
   unfold insideRow
   rw[List.length_replicate,hr]
   simp only[equalN,BEq.rfl,Bool.true_and,Bool.not_eq_true']
   refine anyN_no fun j hj=>?_
   have e2:(List.replicate nf nothD).getD j zeroD=nothD:=by simp[List.getD_eq_getElem?_getD,hj]
   rw[e2,hin false _ (fun q=>by cases q)];rfl
  rw[e,h3];rfl
 rw[h1,h2];rfl
theorem NullsP.both {p:Pg}{is:Nat→Ins}{f:Span→Span→Span}{d e:Pd}(hp:checkProg p is=0) (hd:rightP p is d=0) (h:NullsP d):NullsP (bothP f d e):=by
 unfold bothP
 rw[h.1,if_neg (by decide)]
 cases e.none with
 | true=>
  rw[if_pos rfl,bothRaw_self (RightPd.of hd hp h.1) h.1]
  exact h
 | false=>
  rw[if_neg (by decide)]
  refine⟨rfl,fun k hk=>?_⟩
  have hk' : k<d.vars.length:=by simpa [bothRaw,bothRow,bothTo] using hk
  have e1:(bothRaw f d e).var k=bothD f (d.var k) (e.var k):=bothTo_at f _ _ k _ hk'
  rw[e1]
  show ((d.var k).null || (e.var k).null)=true
  rw[h.2 k hk'];rfl
abbrev KeptL (p:Pg) (is:Nat→Ins) (s:List Pd × Bool):Prop:=PicsOk p is s.1∧NullsP (s.1.getD 0 nonePd)
theorem KeptL.next {p:Pg}{is:Nat→Ins}(hp:checkProg p is=0) {nb:Bool}{i:Nat}{x:Int × Pd}{s:List Pd × Bool}(h:KeptL p is s) (h1:rightP p is x.2=0) (h2:0≤x.1∧x.1≤p.n):KeptL p is (nxtS nb i x s):=by
 refine⟨h.1.next hp h1 h2,?_⟩
 unfold nxtS
 split
 ·exact h.2
 ·have hl:0<s.1.length:=by have:=h.1.len;omega
  show NullsP ((s.1.set _ _).getD 0 nonePd)
  rcases Nat.lt_or_ge x.1.toNat s.1.length with hx|hx
  ·rw[getD_set _ _ _ _ _ hx]
   split
   ·rename_i q
    rw[← q]
    exact h.2.both hp (h.1.r 0 (Nat.zero_le _))
   ·exact h.2
  ·rw[List.set_eq_of_length_le hx];exact h.2
theorem KeptL.fold {p:Pg}{is:Nat→Ins}(hp:checkProg p is=0) {nb:Bool}{i:Nat}:∀ (es:List (Int × Pd)) (s:List Pd × Bool),KeptL p is s→(∀ x∈es,(0≤x.1∧x.1≤p.n)∧rightP p is x.2=0)→KeptL p is (es.foldl (fun s x=>nxtS nb i x s) s)
 | [],_,h,_=>h
 | x::es,s,h,hx=>KeptL.fold hp es _ (h.next hp (hx x List.mem_cons_self).2 (hx x List.mem_cons_self).1) (fun y hy=>hx y (List.mem_cons_of_mem _ hy))
theorem KeptL.all {p:Pg}{is:Nat→Ins}(hp:checkProg p is=0) {nb:Bool}{s:List Pd × Bool}(h:KeptL p is s):∀ k,k≤p.n→KeptL p is (allEdges is (nxtS nb) Prod.fst k s)
 | 0,_=>h
 | k+1,hk=>by
  have h1:=KeptL.all hp (nb:=nb) h k (by omega)
  rw[allEdges_next]
  exact KeptL.fold hp _ _ h1 (rawD_fits hp (h1.1.r k (by omega)) (by omega))
theorem kept_sol {p:Pg}{is:Nat→Ins}(hp:checkProg p is=0) {l:List Pd}(h:KeptL p is (l,false)):∀ k,KeptL p is (solN is p.n l k,false)
 | 0=>h
 | k+1=>by
  have h1:=KeptL.all hp (nb:=decide (3<k+1)) (kept_sol hp h k) p.n (Nat.le_refl _)
  exact⟨h1.1,h1.2⟩
theorem fold_calm {nb:Bool}{i:Nat}:∀ (es:List (Int × Pd)) (s:List Pd × Bool),(es.foldl (fun s x=>nxtS nb i x s) s).2=false→es.foldl (fun s x=>nxtS nb i x s) s=s∧∀ x∈es,insideP x.2 (s.1.getD x.1.toNat nonePd)=true
 | [],s,_=>⟨rfl,fun x hx=>by cases hx⟩
 | x::es,s,h=>by
  rw[List.foldl_cons]at h ⊢
  obtain⟨h1,h2⟩:=fold_calm es (nxtS nb i x s) h
  rw[h1]at h
  by_cases hi:insideP x.2 (s.1.getD x.1.toNat nonePd)=true
  ·have e:nxtS nb i x s=s:=if_pos hi
   rw[e]at h1 h2 ⊢
   refine⟨h1,fun y hy=>?_⟩
   rcases List.mem_cons.1 hy with rfl|hy
   ·exact hi
   ·exact h2 y hy
  ·have e:(nxtS nb i x s).2=true:=by unfold nxtS;rw[if_neg hi]
   rw[e]at h;cases h
theorem all_calm {is:Nat→Ins}{nb:Bool}{l:List Pd}:∀ k:Nat,(allEdges is (nxtS nb) Prod.fst k (l,false)).2=false→allEdges is (nxtS nb) Prod.fst k (l,false)=(l,false)∧∀ i,i<k→∀ x∈(rawD is i (l.getD i nonePd)).es,insideP x.2 (l.getD x.1.toNat nonePd)=true
 | 0,_=>⟨rfl,fun i hi=>absurd hi (Nat.not_lt_zero i)⟩
 | k+1,h=>by
  rw[allEdges_next]at h ⊢
  unfold stepAt at h ⊢
  obtain⟨h1,h2⟩:=fold_calm _ _ h
  rw[h1]at h
  obtain⟨h3,h4⟩:=all_calm k h
  rw[h3]at h1 h2 ⊢
  refine⟨h1,fun i hi=>?_⟩
  rcases Nat.lt_or_ge i k with hik|hik
  ·exact h4 i hik
  ·obtain rfl:i=k:=by omega
   exact h2
theorem sol_fits {p:Pg}{is:Nat→Ins}{nv nf k:Nat}(hp:checkProg p is=0) (hv:p.vars=nv) (hf:p.fields=nf) (hE:EndsN is p.n (beginL nv nf p.n) k):
  PicsOk p is (solN is p.n (beginL nv nf p.n) (k+1))∧fitsS is p.n (solN is p.n (beginL nv nf p.n) (k+1)) (firstP nv nf p.n)=true:=by
 have h0:KeptL p is (beginL nv nf p.n,false):=by
  refine⟨beginL_ok hv hf,rfl,fun j hj=>?_⟩
  have hj' : j<nv:=by simpa [beginL,firstP] using hj
  show ((List.replicate nv nullD).getD j zeroD).null=true
  simp[List.getD_eq_getElem?_getD,hj']
 have hk:=kept_sol hp h0 k
 have hs:=solN_same hp (beginL_ok hv hf) hE.1
 have hc:=all_calm (is:=is) (nb:=decide (3<k+1)) (l:=solN is p.n (beginL nv nf p.n) k) p.n hE.1
 rw[hs]
 refine⟨hk.1,?_⟩
 unfold fitsS
 rw[fitsE_iff.2 hc.2,nulls_in hv hf (hk.1.r 0 (Nat.zero_le _)) hk.2]
 rfl
end Go.Proofs.YtplcndmdkabmeaaGreatDoor
set_option linter.unusedSimpArgs false
set_option linter.unusedVariables false
set_option maxRecDepth 100000
namespace Go.Proofs.YtplcndmdkabmeaaGreatDoor
open Go.RowKit
structure Told (p:Pg) (is:Nat→Ins) (l:List Pd) (s:Rs):Prop where
 w:s.ending=2→∃ m:Nat,s.at'=m∧m<p.n∧(rawD is m (l.getD m nonePd)).wr=true
 f:s.ending=3→∃ m:Nat,s.at'=m∧m<p.n∧(rawD is m (l.getD m nonePd)).fl=true
theorem Told.none {p:Pg}{is:Nat→Ins}{l:List Pd}{s:Rs}(h2:s.ending≠2) (h3:s.ending≠3):Told p is l s:=⟨fun h=>absurd h h2,fun h=>absurd h h3⟩
theorem Kept.told {p:Pg}{is:Nat→Ins}{ins:Sl}{xs:Nat→Int}{l:List Pd}{s:Rs}{n:Nat}(h:Kept p is l s n) (hP:checkProg p is=0) (hl:∀ k,k≤p.n→rightP p is (l.getD k nonePd)=0) (he:s.ending=0):Told p is l (stepM p is ins xs s):=by
 have ha:=h.g.r.a
 by_cases hat:s.at'=p.n
 ·rw[show stepM p is ins xs s={ s with ending:=1 } from if_pos hat]
  exact .none (by show (1:Int)≠2;decide) (by show (1:Int)≠3;decide)
 obtain⟨m,hm⟩:∃ m:Nat,s.at'=m:=⟨s.at'.toNat,by omega⟩
 have hmn:m<p.n:=by omega
 have e:stepM p is ins xs s=stepI p ins xs (is m) s:=by rw[stepM,if_neg hat,hm];rfl
 rw[e]
 have hsh:=h.sh
 rw[hm,Int.toNat_natCast]at hsh
 have hs:=step_sound (ins:=ins) (xs:=xs) hP (OkPd.of (hl m (by omega)) hsh.n) h.g.r hsh he hm hmn
 have hraw:rawD is m (l.getD m nonePd)=stepD (is m) m (l.getD m nonePd):=by unfold rawD;rw[hsh.n,if_neg (by decide)]
 rw[← hraw]at hs
 have hh:=stepI_halts (p:=p) (ins:=ins) (xs:=xs) he (is m)
 exact⟨fun h2=>⟨m,(hh (by omega)).1.trans hm,hmn,hs.w h2⟩,fun h3=>⟨m,(hh (by omega)).1.trans hm,hmn,hs.f h3⟩⟩
theorem told_run {p:Pg}{is:Nat→Ins}{ins:Sl}{xs:Nat→Int}{l:List Pd}(hP:checkProg p is=0) (hl:∀ k,k≤p.n→rightP p is (l.getD k nonePd)=0) (hf:fitsE is p.n l=true):∀ (f:Nat) (s:Rs) (n:Nat),n+f≤5000→Kept p is l s n→Told p is l s→Told p is l (runN p is ins xs f s n).1
 | 0,_,_,_,_,h=>h
 | f+1,s,n,hn,h,ht=>by
  rw[runN]
  split
  ·rename_i he
   exact told_run hP hl hf f _ _ (by omega) (h.next hP hl hf (by omega) he) (h.told hP hl he)
  ·exact ht
theorem fit_tells {p:Pg}{is:Nat→Ins}{ins:Sl}{xs:Nat→Int}{l:List Pd}{nv nf:Nat}(hv:p.vars=nv) (hf:p.fields=nf) (hP:checkProg p is=0) (hl:∀ k,k≤p.n→rightP p is (l.getD k nonePd)=0) (hfit:fitsS is p.n l (firstP nv nf p.n)=true) {fuel:Nat}(hfu:fuel≤5000):
  Told p is l (outS (runN p is ins xs fuel (beginS nv) 0).1):=by
 unfold fitsS at hfit
 rw[Bool.and_eq_true]at hfit
 have h:=told_run (ins:=ins) (xs:=xs) hP hl hfit.1 fuel (beginS nv) 0 (by omega) (.begin hv hf hP hl hfit.2) (.none (by show (0:Int)≠2;decide) (by show (0:Int)≠3;decide))
 unfold outS
 split
 ·exact .none (by show (4:Int)≠2;decide) (by show (4:Int)≠3;decide)
 ·exact h
end Go.Proofs.YtplcndmdkabmeaaGreatDoor
set_option linter.unusedSimpArgs false
set_option linter.unusedVariables false
set_option maxRecDepth 100000
namespace Go.Proofs.YtplcndmdkabmeaaGreatDoor
open Go.RowKit
def sameA (x y:Int × Int):Bool:=x.1==y.1&&x.2==y.2
theorem sameA_iff {x y:Int × Int}:sameA x y=true↔x=y:=by
 obtain⟨a,b⟩:=x
 obtain⟨c,d⟩:=y
 simp[sameA]
def hasA (al:List (Int × Int)) (x:Int × Int):Bool:=anyN (fun k=>sameA (al.getD k (0,0)) x) al.length
theorem hasA_iff {al:List (Int × Int)}{x:Int × Int}:hasA al x=true↔x∈al:=by
 constructor
 ·intro h
  by_cases hm:x∈al
  ·exact hm
  ·have:hasA al x=false:=anyN_no fun k hk=>by
    cases hs:sameA (al.getD k (0,0)) x with
    | false=>rfl
    | true=>
     have e:=sameA_iff.1 hs
     exact absurd (e▸getD_mem (d:=(0,0)) hk) hm
   rw[this]at h;cases h
 ·intro h
  obtain⟨k,hk,e⟩:=List.mem_iff_getElem.1 h
  refine anyN_yes hk ?_
  rw[List.getD_eq_getElem?_getD,List.getElem?_eq_getElem hk]
  simp only[Option.getD_some,e]
  exact sameA_iff.2 rfl
theorem almUp_has {is:Nat→Ins}{l:List Pd}{n i j:Nat}(hi:i<n) (hj:j<4) (hf:flagA (rawD is i (l.getD i nonePd)) (l.getD i nonePd).none j=true):((i:Int),(j:Int))∈almUp is l n:=by
 unfold almUp almJ
 exact List.mem_flatMap.2 ⟨i,List.mem_range.2 hi,List.mem_map.2 ⟨j,List.mem_filter.2 ⟨List.mem_range.2 hj,hf⟩,rfl⟩⟩
theorem almUp_of {is:Nat→Ins}{l:List Pd}{n i j:Nat}(h:((i:Int),(j:Int))∈almUp is l n):i<n∧flagA (rawD is i (l.getD i nonePd)) (l.getD i nonePd).none j=true:=by
 unfold almUp almJ at h
 obtain⟨a,ha,hx⟩:=List.mem_flatMap.1 h
 obtain⟨b,hb,e⟩:=List.mem_map.1 hx
 obtain⟨h1,h2⟩:=List.mem_filter.1 hb
 simp only[Prod.mk.injEq]at e
 obtain⟨e1,e2⟩:=e
 obtain rfl:a=i:=Int.ofNat.inj e1
 obtain rfl:b=j:=Int.ofNat.inj e2
 exact⟨List.mem_range.1 ha,h2⟩
theorem sure_not {al:List (Int × Int)}{x:Int × Int}(h:x∈al) (h3:x.2≠3):sureA al=false:=by
 obtain⟨k,hk,e⟩:=List.mem_iff_getElem.1 h
 unfold sureA
 rw[anyN_yes hk (by
  rw[List.getD_eq_getElem?_getD,List.getElem?_eq_getElem hk]
  simp only[Option.getD_some,e]
  simpa using h3)]
 rfl
structure AlmOk (al:List (Int × Int)) (at' en:Int):Prop where
 i:hasA al (at',3)=false
 w:en=2→hasA al (at',1)=true∧sureA al=false
 f:en=3→hasA al (at',2)=true∧sureA al=false
theorem alm_ok {p:Pg}{is:Nat→Ins}{ins:Sl}{xs:Nat→Int}{nv nf:Nat}(hv:p.vars=nv) (hf:p.fields=nf) (hP:checkProg p is=0) {fuel:Nat}(hfu:fuel≤5000) {k:Nat}(hE:EndsN is p.n (beginL nv nf p.n) k):
  AlmOk (almUp is (solN is p.n (beginL nv nf p.n) (k+1)) p.n) (outS (runN p is ins xs fuel (beginS nv) 0).1).at' (outS (runN p is ins xs fuel (beginS nv) 0).1).ending:=by
 have hs:=sol_fits hP hv hf hE
 obtain⟨m,hg,hst,he,hsh⟩:=fit_shows (ins:=ins) (xs:=xs) hv hf hP hs.1.r hs.2 hfu
 have ht:=fit_tells (ins:=ins) (xs:=xs) hv hf hP hs.1.r hs.2 hfu
 generalize outS (runN p is ins xs fuel (beginS nv) 0).1=t at *
 generalize solN is p.n (beginL nv nf p.n) (k+1)=l at *
 obtain⟨a,ha⟩:∃ a:Nat,t.at'=a:=⟨t.at'.toNat,by have:=hg.r.a;omega⟩
 have hno:=hsh.n
 rw[ha,Int.toNat_natCast]at hno
 refine⟨?_,fun h2=>?_,fun h3=>?_⟩
 ·cases hh:hasA (almUp is l p.n) (t.at',3) with
  | false=>rfl
  | true=>
   rw[ha]at hh
   have h:=(almUp_of (j:=3) (hasA_iff.1 hh)).2
   rw[show flagA (rawD is a (l.getD a nonePd)) (l.getD a nonePd).none 3=(l.getD a nonePd).none from rfl,hno]at h
   cases h
 ·obtain⟨b,e1,e2,e3⟩:=ht.w h2
  have hm:(t.at',(1:Int))∈almUp is l p.n:=by rw[e1];exact almUp_has (j:=1) e2 (by decide) e3
  exact⟨hasA_iff.2 hm,sure_not hm (by show (1:Int)≠3;decide)⟩
 ·obtain⟨b,e1,e2,e3⟩:=ht.f h3
  have hm:(t.at',(2:Int))∈almUp is l p.n:=by rw[e1];exact almUp_has (j:=2) e2 (by decide) e3
  exact⟨hasA_iff.2 hm,sure_not hm (by show (2:Int)≠3;decide)⟩
end Go.Proofs.YtplcndmdkabmeaaGreatDoor
