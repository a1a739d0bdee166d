/-  -/
import Derived.Test.YteoilpcbekijlaaGreatDoorSoundS
import Derived.Test.YteoilpcbekijlaaGreatDoorOpenPics
import Derived.Test.YteoilpcbekijlaaGreatDoorKep
set_option linter.unusedSimpArgs false
set_option linter.unusedVariables false
set_option maxRecDepth 100000
namespace Go.Proofs.YteoilpcbekijlaaGreatDoor
open Go.RowKit
def SitesR (p:Pg) (is:Nat→Ins) (s:Rs):Prop:=∀ x∈s.things,isSite p is x.1=true
theorem SitesR.at' {p:Pg}{is:Nat→Ins}{s:Rs}(h:SitesR p is s) (k:Nat) (hk:k<s.things.length):isSite p is (s.thing k).1=true:=h _ (getD_mem hk)
theorem SitesR.like {p:Pg}{is:Nat→Ins}{s t:Rs}(h:SitesR p is s) (h2:t.things=s.things):SitesR p is t:=by unfold SitesR;rw[h2];exact h
theorem SitesR.cond {p:Pg}{is:Nat→Ins}{a b:Rs}{c:Prop} [Decidable c] (h1:c→SitesR p is a) (h2:SitesR p is b):SitesR p is (if c then a else b):=by
 split
 ·exact h1 (by assumption)
 ·exact h2
theorem sites_put {p:Pg}{is:Nat→Ins}{s:Rs}(h:SitesR p is s) (kk f:Nat) (v:Vl):SitesR p is (putS kk f v s):=by
 intro x hx
 rcases Nat.lt_or_ge kk s.things.length with hk|hk
 ·rcases mem_set hx with rfl|hx
  ·exact h.at' kk hk
  ·exact h x hx
 ·have:(putS kk f v s).things=s.things:=List.set_eq_of_length_le hk
  rw[this]at hx
  exact h x hx
theorem sites_create {p:Pg}{is:Nat→Ins}{s:Rs}(h:SitesR p is s) (hs:isSite p is s.at'=true) (t m:Nat):SitesR p is (createS t m s):=by
 unfold createS
 refine .cond (fun _=>h.like rfl) ?_
 intro x hx
 rcases List.mem_append.1 hx with hx|hx
 ·exact h x hx
 ·rw[List.mem_singleton.1 hx];exact hs
theorem stepI_sites {p:Pg}{is:Nat→Ins}{ins:Sl}{xs:Nat→Int}{s:Rs}(h:SitesR p is s) {m:Nat}(hm:s.at'=m) (hmn:m<p.n):SitesR p is (stepI p ins xs (is m) s):=by
 have hs:(is m).kind=11→isSite p is s.at'=true:=fun hk=>by rw[hm];simp[isSite,hmn,hk]
 generalize is m=i at hs
 unfold stepI countS takeS onwardS
 repeat' first
  | exact h.like rfl
  | exact sites_put h _ _ _
  | exact fun _=>h.like rfl
  | exact fun _=>sites_put h _ _ _
  | exact fun hk=>sites_create h (hs hk) _ _
  | refine SitesR.cond ?_ ?_
  | refine fun _=>SitesR.cond ?_ ?_
def Halts (s t:Rs):Prop:=t.ending≠0→t.at'=s.at'∧t.vars=s.vars∧t.things=s.things
theorem Halts.cond {s a b:Rs}{c:Prop} [Decidable c] (h1:Halts s a) (h2:Halts s b):Halts s (if c then a else b):=by split<;>assumption
theorem stepI_halts {p:Pg}{ins:Sl}{xs:Nat→Int}{s:Rs}(he:s.ending=0) (i:Ins):Halts s (stepI p ins xs i s):=by
 unfold stepI countS takeS onwardS createS putS
 repeat' first
  | exact fun h=>absurd he h
  | exact fun _=>⟨rfl,rfl,rfl⟩
  | refine Halts.cond ?_ ?_
def EndR (t:Rs):Prop:=0≤t.ending∧t.ending≤5
theorem EndR.cond {a b:Rs}{c:Prop} [Decidable c] (h1:EndR a) (h2:EndR b):EndR (if c then a else b):=by split<;>assumption
theorem stepI_end {p:Pg}{ins:Sl}{xs:Nat→Int}{s:Rs}(he:EndR s) (i:Ins):EndR (stepI p ins xs i s):=by
 unfold stepI countS takeS onwardS createS putS
 repeat' first
  | exact he
  | exact(by decide:(0:Int)≤1∧(1:Int)≤5)
  | exact(by decide:(0:Int)≤2∧(2:Int)≤5)
  | exact(by decide:(0:Int)≤3∧(3:Int)≤5)
  | exact(by decide:(0:Int)≤5∧(5:Int)≤5)
  | refine EndR.cond ?_ ?_
theorem showOk_of {p:Pg}{is:Nat→Ins}{d:Pd}{s:Rs}(hd:OkPd p is d) (hR:RightS p s) (hst:SitesR p is s):ShowOk d s:=by
 refine⟨by have:=hd.vars;have:=hR.nv;omega,fun k hk=>?_,hR.vals,hR.fvals⟩
 obtain⟨m,h2,h3,_⟩:=isSite_nat (hst.at' k hk)
 have h4:=hd.rows m h3
 have h5:=hR.nf k hk
 exact⟨m,h2,by rw[hd.fields];exact h3,by omega⟩
theorem shows_in {p:Pg}{is:Nat→Ins}{d e:Pd}{s:Rs}(hP:checkProg p is=0) (hd:rightP p is d=0) (he:rightP p is e=0) (hR:RightS p s) (hst:SitesR p is s) (hi:insideP d e=true) (h:Shows d s):Shows e s:=by
 have h1:=shows_both' puts_both hP hd he (fun hn=>showOk_of (OkPd.of he hn) hR hst) (shows_iff.2 h) (showOk_of (OkPd.of hd h.n) hR hst)
 rw[(highP_both hP stays_both he hd).2 hi]at h1
 exact shows_iff.1 h1
structure Kept (p:Pg) (is:Nat→Ins) (l:List Pd) (s:Rs) (n:Nat):Prop where
 g:Gone p s n
 st:SitesR p is s
 e:EndR s
 sh:Shows (l.getD s.at'.toNat nonePd) s
theorem Kept.begin {p:Pg}{is:Nat→Ins}{l:List Pd}{nv nf:Nat}(hv:p.vars=nv) (hf:p.fields=nf) (hP:checkProg p is=0) (hl:∀ k,k≤p.n→rightP p is (l.getD k nonePd)=0) (hi:insideP (firstP nv nf p.n) (l.getD 0 nonePd)=true):Kept p is l (beginS nv) 0:=by
 have hg:=Gone.begin (p:=p) hv (Int.natCast_nonneg _)
 have hst:SitesR p is (beginS nv):=fun x hx=>by cases hx
 refine⟨hg,hst,(by decide:(0:Int)≤0∧(0:Int)≤5),shows_in hP (first_right hv hf) (hl 0 (Nat.zero_le _)) hg.r hst hi ⟨rfl,fun k hk=>?_,fun k hk=>absurd hk (Nat.not_lt_zero k)⟩⟩
 have hk' : k<nv:=by simpa [beginS] using hk
 have e1:(firstP nv nf p.n).var k=nullD:=by simp[firstP,Pd.var,List.getD_eq_getElem?_getD,hk']
 have e2:(beginS nv).val k=dV:=by simp[beginS,List.getD_eq_getElem?_getD,hk']
 rw[e1,e2]
 rfl
theorem Kept.next {p:Pg}{is:Nat→Ins}{ins:Sl}{xs:Nat→Int}{l:List Pd}{s:Rs}{n:Nat}(h:Kept p is l s n) (hP:checkProg p is=0) (hl:∀ k,k≤p.n→rightP p is (l.getD k nonePd)=0) (hf:fitsE is p.n l=true) (hn:n≤5000) (he:s.ending=0):Kept p is l (stepM p is ins xs s) (n+1):=by
 have hg:=h.g.next (is:=is) (ins:=ins) (xs:=xs) hP hn
 have ha:=h.g.r.a
 by_cases hat:s.at'=p.n
 ·rw[show stepM p is ins xs s={ s with ending:=1 } from if_pos hat]at hg ⊢
  exact⟨hg,h.st.like rfl,⟨by show (0:Int)≤1;decide,by show (1:Int)≤5;decide⟩,h.sh.like rfl rfl⟩
 obtain⟨m,hm⟩:∃ m:Nat,s.at'=m:=⟨s.at'.toNat,by omega⟩
 have hmn:m<p.n:=by omega
 have e:stepM p is ins xs s=stepI p ins xs (is m) s:=by rw[stepM,if_neg hat,hm];rfl
 rw[e]at hg ⊢
 have hst:=stepI_sites (ins:=ins) (xs:=xs) h.st hm hmn
 refine⟨hg,hst,stepI_end h.e _,?_⟩
 have hsh:=h.sh
 rw[hm,Int.toNat_natCast]at hsh
 by_cases hz:(stepI p ins xs (is m) s).ending=0
 ·have hs:=step_sound (ins:=ins) (xs:=xs) hP (OkPd.of (hl m (by omega)) hsh.n) h.g.r hsh he hm hmn
  obtain⟨d,h1,h2⟩:=hs.e hz
  have hraw:rawD is m (l.getD m nonePd)=stepD (is m) m (l.getD m nonePd):=by unfold rawD;rw[hsh.n,if_neg (by decide)]
  rw[← hraw]at h1
  have h3:=fitsE_iff.1 hf m hmn _ h1
  have h4:=rawD_fits hP (hl m (by omega)) hmn _ h1
  dsimp only at h3 h4
  exact shows_in hP h4.2 (hl _ (by omega)) hg.r hst h3 h2
 ·obtain⟨a1,a2,a3⟩:=stepI_halts (p:=p) (ins:=ins) (xs:=xs) he (is m) hz
  rw[a1,hm,Int.toNat_natCast]
  exact hsh.like a2 a3
theorem kept_run {p:Pg}{is:Nat→Ins}{ins:Sl}{xs:Nat→Int}{l:List Pd}(hP:checkProg p is=0) (hl:∀ k,k≤p.n→rightP p is (l.getD k nonePd)=0) (hf:fitsE is p.n l=true):∀ (f:Nat) (s:Rs) (n:Nat),n+f≤5000→Kept p is l s n→∃ m,Kept p is l (runN p is ins xs f s n).1 m
 | 0,s,n,_,h=>⟨n,h⟩
 | f+1,s,n,hn,h=>by
  rw[runN]
  split
  ·rename_i he
   exact kept_run hP hl hf f _ _ (by omega) (h.next hP hl hf (by omega) he)
  ·exact⟨n,h⟩
theorem fit_shows {p:Pg}{is:Nat→Ins}{ins:Sl}{xs:Nat→Int}{l:List Pd}{nv nf:Nat}(hv:p.vars=nv) (hf:p.fields=nf) (hP:checkProg p is=0) (hl:∀ k,k≤p.n→rightP p is (l.getD k nonePd)=0) (hfit:fitsS is p.n l (firstP nv nf p.n)=true) {fuel:Nat}(hfu:fuel≤5000):
  ∃ m,Kept p is l (outS (runN p is ins xs fuel (beginS nv) 0).1) m:=by
 unfold fitsS at hfit
 rw[Bool.and_eq_true]at hfit
 obtain⟨m,h⟩:=kept_run (ins:=ins) (xs:=xs) hP hl hfit.1 fuel (beginS nv) 0 (by omega) (.begin hv hf hP hl hfit.2)
 refine⟨m,?_⟩
 unfold outS
 split
 ·exact⟨⟨h.g.r.ended 4,h.g.k,h.g.l⟩,h.st.like rfl,⟨by show (0:Int)≤4;decide,by show (4:Int)≤5;decide⟩,h.sh.like rfl rfl⟩
 ·exact h
theorem right_is {p:Pg}{is:Nat→Ins}{r:Rn}{s:Rs}{ths:Nat→Th}(hR:RightS p s) (hst:SitesR p is s) (he:EndR s) (ha:r.at'=s.at') (ht:r.taken=s.taken) (hen:r.ending=s.ending) (hv:r.vars.n=s.vars.length) (hn:r.things.n=s.things.length)
  (hth:∀ k,k<s.things.length→(ths k).site=(s.thing k).1∧(ths k).fs.n=(s.thing k).2.length):rightRun p is r s.val ths s.field=0:=by
 have h1:=hR.a
 have h2:=hR.tk
 have h3:=hR.nv
 have h4:=hR.nt
 have h5:=he.1
 have h6:=he.2
 have q1:placeBad p r=false:=by
  simp only[placeBad,Bool.or_eq_false_iff,decide_eq_false_iff_not]
  omega
 have q2:((r.vars.n:Int) != p.vars)=false:=by simp;omega
 have q3:siteBad p is r ths=false:=anyN_no fun k hk=>by
  rw[(hth k (by omega)).1,hst.at' k (by omega)];rfl
 have q4:lenBad p r ths=false:=anyN_no fun k hk=>by
  have:=hR.nf k (by omega)
  have e:=(hth k (by omega)).2
  simp;omega
 have q5:varBad r s.val=false:=anyN_no fun k hk=>by
  rw[hn,hR.vals k (by omega)];rfl
 have q6:fieldBad r ths s.field=false:=anyN_no fun k hk=>anyN_no fun j hj=>by
  rw[hn,hR.fvals k (by omega) j (by have:=(hth k (by omega)).2;omega)];rfl
 unfold rightRun
 rw[q1,q2,q3,q4,q5,q6]
 simp only[Bool.false_eq_true,if_false]
 rw[if_neg (by omega)]
end Go.Proofs.YteoilpcbekijlaaGreatDoor
