/-  -/
import Derived.Deep.CutBlock
import Derived.Test.YteoilpcbekijlaaGreatDoorPica
import Derived.Test.YteoilpcbekijlaaGreatDoorGue
import Derived.Test.YteoilpcbekijlaaGreatDoorPicb
import Derived.Test.YteoilpcbekijlaaGreatDoorLib
set_option linter.unusedSimpArgs false
set_option linter.unusedVariables false
set_option maxRecDepth 100000
namespace Go.Proofs.YteoilpcbekijlaaGreatDoor
open Go.RowKit
end Go.Proofs.YteoilpcbekijlaaGreatDoor
set_option linter.unusedSimpArgs false
set_option linter.unusedVariables false
set_option maxRecDepth 100000
set_option maxHeartbeats 1600000
namespace Go.Proofs.YteoilpcbekijlaaGreatDoor
open Go.RowKit
theorem firstE_all {α:Type}{f:α→Int}{l:List α}(h:firstE (l.map f)=0):∀ x∈l,f x=0:=by
 induction l with
 | nil=>intro x hx;cases hx
 | cons a l ih=>
  intro x hx
  have h1:f a=0:=by
   by_cases h2:f a=0
   ·exact h2
   ·simp[firstE,h2]at h
  have h3:firstE (l.map f)=0:=by simpa [firstE,h1] using h
  rcases List.mem_cons.1 hx with rfl|hx
  ·exact h1
  ·exact ih h3 x hx
structure RightD (d:Res):Prop where
 span:checkSpan d.span=0
 ins:inS d.l
 asc:ascS d.l
 le:d.l.length≤60
theorem RightD.of {p:Pg}{is:Nat→Ins}{d:Res}(h:rightD p is d=0) (hp:checkProg p is=0):RightD d:=by
 have h1:RightGu (d.gu ⟨none,d.l.length,0⟩) d.l:=RightGu.of h hp rfl
 exact⟨h1.span,h1.ins,h1.asc,h1.le⟩
structure RightPd (p:Pg) (d:Pd):Prop where
 vars:(d.vars.length:Int)=p.vars
 fields:d.fields.length=p.n
 rows:∀ k,k<d.fields.length→((d.row k).length:Int)=p.fields
 vg:∀ k,k<d.vars.length→RightD (d.var k)
 fg:∀ k j,k<d.fields.length→j<(d.row k).length→RightD (d.field k j)
theorem getD_mem {α:Type}{l:List α}{d:α}{k:Nat}(h:k<l.length):l.getD k d∈l:=by
 rw[List.getD_eq_getElem?_getD,List.getElem?_eq_getElem h]
 exact List.getElem_mem h
theorem RightPd.of {p:Pg}{is:Nat→Ins}{d:Pd}(h:rightP p is d=0) (hp:checkProg p is=0) (hn:d.none=false):RightPd p d:=by
 obtain⟨dn,vs,fs⟩:=d
 dsimp only at hn
 subst hn
 rw[some_right]at h
 split at h
 ·cases h
 rename_i h1
 split at h
 ·rename_i h2;exact absurd h h2
 rename_i h2
 have h3:rowsE p is (vs::fs)=0:=by omega
 rw[rowsE_flat]at h3
 have h4:=firstE_all h3
 have h5:lensD p ⟨false,vs,fs⟩=false:=by simpa using h1
 unfold lensD at h5
 simp only[Bool.or_eq_false_iff,bne_eq_false_iff_eq]at h5
 obtain⟨⟨h6,h7⟩,h8⟩:=h5
 have h9:∀ k,k<fs.length→((fs.getD k []).length:Int)=p.fields:=fun k hk=>by
  by_cases hq:((fs.getD k []).length:Int)=p.fields
  ·exact hq
  ·have:=anyN_yes (q:=fun i=>((Pd.row ⟨false,vs,fs⟩ i).length:Int) != p.fields) hk (by simpa using hq)
   rw[this]at h8
   cases h8
 refine⟨h6,by dsimp only;omega,h9,fun k hk=>RightD.of (h4 _ ?_) hp,fun k j hk hj=>RightD.of (h4 _ ?_) hp⟩
 ·exact List.mem_flatten.2 ⟨vs,List.mem_cons_self,getD_mem hk⟩
 ·exact List.mem_flatten.2 ⟨fs.getD k [],List.mem_cons_of_mem _ (getD_mem hk),getD_mem hj⟩
theorem RightPd.none {p:Pg}{is:Nat→Ins}{d:Pd}(h:rightP p is d=0) (hn:d.none=true):d=nonePd:=by
 obtain⟨dn,vs,fs⟩:=d
 dsimp only at hn
 subst hn
 rw[none_right]at h
 split at h
 ·cases h
 rename_i h1
 obtain rfl:vs=[]:=List.eq_nil_of_length_eq_zero (by omega)
 obtain rfl:fs=[]:=List.eq_nil_of_length_eq_zero (by omega)
 rfl
theorem FewP.of {p:Pg}{d:Pd}(h:RightPd p d) (hs:Small p):FewP d:=by
 have h1:=hs.v2
 have h2:=hs.n1
 have h3:=hs.f2
 refine⟨by have:=h.vars;omega,by have:=h.fields;omega,fun k hk=>by have:=h.rows k hk;omega,fun k hk=>by have:=(h.vg k hk).le;omega,fun k j hk hj=>by have:=(h.fg k j hk hj).le;omega⟩
theorem FewP.none:FewP nonePd:=⟨by decide,by decide,fun k hk=>absurd hk (Nat.not_lt_zero k),fun k hk=>absurd hk (Nat.not_lt_zero k),fun k j hk=>absurd hk (Nat.not_lt_zero k)⟩
theorem LikeP.of {p:Pg}{d e:Pd}(h:RightPd p d) (h' : RightPd p e):LikeP d e:=by
 refine⟨by have:=h.vars;have:=h'.vars;omega,by rw[h.fields,h'.fields],fun k hk=>?_⟩
 have h1:=h.rows k hk
 have h2:=h'.rows k (by rw[h'.fields,← h.fields];exact hk)
 omega
theorem both_self {s:Span}(h:checkSpan s=0):both s s=s:=by
 obtain⟨_,_,h3⟩:=checkSpan_zero h
 obtain⟨n,lo,hi⟩:=s
 cases n with
 | true=>
  obtain⟨rfl,rfl⟩:=h3 rfl
  rfl
 | false=>simp[both,min2,max2]
theorem mix_self {l:List Int}(h:ascS l):mixS l l=l:=by
 obtain⟨h1,h2⟩:=mix_asc l l
 exact asc_ext h1 h (fun x=>by rw[h2];simp)
theorem bothD_self {d:Res}(h:RightD d):bothD both d d=d:=by
 obtain⟨dn,ds,dt,df,dl⟩:=d
 simp only[bothD,both_self h.span,mix_self h.asc,Bool.or_self]
theorem bothRow_self {ds:List Res}(h:∀ k,k<ds.length→RightD (ds.getD k zeroD)):bothRow both ds ds=ds:=by
 apply List.ext_getElem
 ·simp[bothTo]
 ·intro k h1 h2
  have h3:=bothD_self (h k h2)
  simp only[bothTo,List.getElem_map,List.getElem_range]
  rw[h3,List.getD_eq_getElem?_getD,List.getElem?_eq_getElem h2]
  rfl
theorem bothRaw_self {p:Pg}{d:Pd}(h:RightPd p d) (hn:d.none=false):bothRaw both d d=d:=by
 obtain⟨dn,vs,fs⟩:=d
 dsimp only at hn
 subst hn
 have h1:bothRow both vs vs=vs:=bothRow_self h.vg
 have h2:bothRows both ⟨false,vs,fs⟩ ⟨false,vs,fs⟩ fs.length=fs:=by
  apply List.ext_getElem
  ·simp[bothRows]
  ·intro k h1 h2
   simp only[bothRows,List.getElem_map,List.getElem_range]
   show bothRow both (fs.getD k []) (fs.getD k [])=_
   rw[bothRow_self (fun j hj=>h.fg k j h2 hj),List.getD_eq_getElem?_getD,List.getElem?_eq_getElem h2]
   rfl
 show Pd.mk false _ _=_
 rw[h1]
 congr 1
theorem site_at {p:Pg}{is:Nat→Ins}{d:Res}(h:rightD p is d=0):∀ x∈d.l,isSite p is x=true:=by
 intro x hx
 obtain⟨k,hk,he⟩:=List.mem_iff_getElem.1 hx
 have h2:siteBadG p is d.l=false:=by
  have h1:rightG p is (d.gu nilSl) d.l=0:=h
  unfold rightG at h1
  by_cases q:checkSpan (d.gu nilSl).span=0
  ·rw[if_neg (by omega)]at h1
   by_cases q2:siteBadG p is d.l=true
   ·rw[if_pos q2]at h1;omega
   ·simpa using q2
  ·rw[if_pos q]at h1;exact absurd h1 q
 have h4:(!isSite p is (d.l.getD k 0))=false:=by
  cases h5:(!isSite p is (d.l.getD k 0)) with
  | false=>rfl
  | true=>
   have h6:=anyN_yes (q:=fun k=>!isSite p is (d.l.getD k 0)) hk h5
   unfold siteBadG at h2
   rw[h6]at h2;cases h2
 rw[List.getD_eq_getElem?_getD,List.getElem?_eq_getElem hk]at h4
 simpa [he] using h4
theorem isSite_nat {p:Pg}{is:Nat→Ins}{x:Int}(h:isSite p is x=true):∃ m:Nat,x=m∧m<p.n∧(is m).kind=11:=by
 simp only[isSite,Bool.and_eq_true,decide_eq_true_eq,beq_iff_eq]at h
 exact⟨x.toNat,by omega,by omega,h.2.2⟩
structure OkD (p:Pg) (is:Nat→Ins) (d:Res):Prop where
 span:checkSpan d.span=0
 sites:∀ x∈d.l,isSite p is x=true
 asc:ascS d.l
theorem ascS_drop {l:List Int}(h:ascS l):dropI l=false:=by
 cases h1:dropI l with
 | false=>rfl
 | true=>
  obtain⟨k,hk,h2⟩:=anyN_iff.1 (show anyN _ _=true from h1)
  have h3:l.getD (k+1) 0≤l.getD k 0:=by simpa using h2
  have hk1:k+1<l.length:=by omega
  have h4:=List.pairwise_iff_getElem.1 h k (k+1) (by omega) hk1 (by omega)
  rw[List.getD_eq_getElem?_getD,List.getD_eq_getElem?_getD,List.getElem?_eq_getElem hk1,List.getElem?_eq_getElem (by omega)]at h3
  simp only[Option.getD_some]at h3
  omega
theorem OkD.of {p:Pg}{is:Nat→Ins}{d:Res}(h:rightD p is d=0):OkD p is d:=by
 have h1:rightG p is (d.gu nilSl) d.l=0:=h
 unfold rightG at h1
 by_cases q:checkSpan (d.gu nilSl).span=0
 ·refine⟨q,site_at h,?_⟩
  rw[if_neg (by omega)]at h1
  by_cases q2:siteBadG p is d.l=true
  ·rw[if_pos q2]at h1;omega
  ·rw[if_neg q2]at h1
   by_cases q3:dropI d.l=true
   ·rw[if_pos q3]at h1;omega
   ·exact ascS_of (by simpa using q3)
 ·rw[if_pos q]at h1;exact absurd h1 q
theorem OkD.right {p:Pg}{is:Nat→Ins}{d:Res}(h:OkD p is d):rightD p is d=0:=by
 show rightG p is (d.gu nilSl) d.l=0
 unfold rightG
 have h2:siteBadG p is d.l=false:=anyN_no fun k hk=>by
  have h1:=h.sites (d.l.getD k 0) (getD_mem hk)
  show (!isSite p is (d.l.getD k 0))=false
  rw[h1];rfl
 rw[if_neg (by have:checkSpan (d.gu nilSl).span=0:=h.span;omega),h2,ascS_drop h.asc]
 rfl
theorem OkD.few {p:Pg}{is:Nat→Ins}{d:Res}(h:OkD p is d) (hp:checkProg p is=0):RightD d:=RightD.of h.right hp
structure OkPd (p:Pg) (is:Nat→Ins) (d:Pd):Prop where
 none:d.none=false
 vars:(d.vars.length:Int)=p.vars
 fields:d.fields.length=p.n
 rows:∀ k,k<p.n→((d.row k).length:Int)=p.fields
 vg:∀ g∈d.vars,OkD p is g
 fg:∀ k,k<p.n→∀ g∈d.row k,OkD p is g
 stray:∀ k:Nat,k<p.n→isSite p is k=false→∀ g∈d.row k,emptyD g=true
theorem OkPd.of {p:Pg}{is:Nat→Ins}{d:Pd}(h:rightP p is d=0) (hn:d.none=false):OkPd p is d:=by
 obtain⟨dn,vs,fs⟩:=d
 dsimp only at hn
 subst hn
 rw[some_right]at h
 split at h
 ·cases h
 rename_i h1
 split at h
 ·rename_i h2;exact absurd h h2
 rename_i h2
 split at h
 ·cases h
 rename_i hst
 have h3:rowsE p is (vs::fs)=0:=by omega
 rw[rowsE_flat]at h3
 have h4:=firstE_all h3
 have h5:lensD p ⟨false,vs,fs⟩=false:=by simpa using h1
 unfold lensD at h5
 simp only[Bool.or_eq_false_iff,bne_eq_false_iff_eq]at h5
 obtain⟨⟨h6,h7⟩,h8⟩:=h5
 have h7' : fs.length=p.n:=by omega
 have h9:∀ k,k<fs.length→((fs.getD k []).length:Int)=p.fields:=fun k hk=>by
  by_cases hq:((fs.getD k []).length:Int)=p.fields
  ·exact hq
  ·have:=anyN_yes (q:=fun i=>((Pd.row ⟨false,vs,fs⟩ i).length:Int) != p.fields) hk (by simpa using hq)
   rw[this]at h8
   cases h8
 refine⟨rfl,h6,h7',fun k hk=>h9 k (by omega),fun g hg=>OkD.of (h4 g (List.mem_flatten.2 ⟨vs,List.mem_cons_self,hg⟩)),fun k hk g hg=>OkD.of (h4 g (List.mem_flatten.2 ⟨fs.getD k [],List.mem_cons_of_mem _ (getD_mem (by omega)),hg⟩)),fun k hk hs g hg=>?_⟩
 have h10:strayD p is fs=false:=by simpa using hst
 cases he:emptyD g with
 | true=>rfl
 | false=>
  have h11:fullD (fs.getD k [])=true:=by
   obtain⟨j,hj,hje⟩:=List.mem_iff_getElem.1 hg
   refine anyN_yes (q:=fun j=>!emptyD ((fs.getD k []).getD j zeroD)) (k:=j) hj ?_
   show (!emptyD ((fs.getD k []).getD j zeroD))=true
   have e2:(fs.getD k []).getD j zeroD=g:=by
    rw[List.getD_eq_getElem?_getD,List.getElem?_eq_getElem hj];exact hje
   rw[e2,he];rfl
  have h12:=anyN_yes (q:=fun i=>!isSite p is i&&fullD (fs.getD i [])) (n:=fs.length) (k:=k) (by omega) (by show (!isSite p is k&&fullD (fs.getD k []))=true;rw[hs,h11];rfl)
  unfold strayD at h10
  rw[h12]at h10;cases h10
theorem OkPd.right {p:Pg}{is:Nat→Ins}{d:Pd}(h:OkPd p is d):rightP p is d=0:=by
 obtain⟨dn,vs,fs⟩:=d
 obtain⟨h1,h2,h3,h4,h5,h6,h7⟩:=h
 dsimp only at h1 h2 h3 h4 h5 h6 h7
 subst h1
 rw[some_right]
 have hl:lensD p ⟨false,vs,fs⟩=false:=by
  unfold lensD
  have e1:anyN (fun i=>((Pd.row ⟨false,vs,fs⟩ i).length:Int) != p.fields) fs.length=false:=anyN_no fun k hk=>by
   have:=h4 k (by omega)
   simpa using this
  rw[e1]
  simp[h2,h3]
 have hr:rowsE p is (vs::fs)=0:=by
  rw[rowsE_flat]
  have:∀ l:List Res,(∀ g∈l,rightD p is g=0)→firstE (l.map (rightD p is))=0:=by
   intro l
   induction l with
   | nil=>intro _;rfl
   | cons a l ih=>
    intro hl
    rw[List.map_cons,firstE,if_pos (hl a List.mem_cons_self)]
    exact ih fun g hg=>hl g (List.mem_cons_of_mem _ hg)
  refine this _ fun g hg=>?_
  obtain⟨l,hl,hgl⟩:=List.mem_flatten.1 hg
  rcases List.mem_cons.1 hl with rfl|hl
  ·exact(h5 g hgl).right
  ·obtain⟨k,hk,hke⟩:=List.mem_iff_getElem.1 hl
   refine(h6 k (by omega) g ?_).right
   show g∈fs.getD k []
   rw[List.getD_eq_getElem?_getD,List.getElem?_eq_getElem hk]
   simpa [hke] using hgl
 have hs:strayD p is fs=false:=anyN_no fun k hk=>by
  cases hsi:isSite p is k with
  | true=>rfl
  | false=>
   have h8:fullD (fs.getD k [])=false:=anyN_no fun j hj=>by
    have h9:=h7 k (by omega) hsi ((fs.getD k []).getD j zeroD) (getD_mem hj)
    rw[h9];rfl
   show (!false&&fullD (fs.getD k []))=false
   rw[h8,Bool.and_false]
 rw[hl,hr,hs]
 simp
theorem OkPd.r {p:Pg}{is:Nat→Ins}{d:Pd}(h:OkPd p is d) (hp:checkProg p is=0):RightPd p d:=RightPd.of h.right hp h.none
theorem both_conds {p:Pg}{is:Nat→Ins}{d e:Pd}(h:cp2 p is d e=0):FewP d∧FewP e∧(d.none=false→e.none=false→LikeP d e):=by
 obtain⟨h0,h1,h2⟩:=cp2_zero h
 have hs:=(prog_right h0).1
 refine⟨?_,?_,fun hd he=>LikeP.of (RightPd.of h1 h0 hd) (RightPd.of h2 h0 he)⟩
 ·cases hd:d.none with
  | true=>rw[RightPd.none h1 hd];exact FewP.none
  | false=>exact FewP.of (RightPd.of h1 h0 hd) hs
 ·cases he:e.none with
  | true=>rw[RightPd.none h2 he];exact FewP.none
  | false=>exact FewP.of (RightPd.of h2 h0 he) hs
theorem pJoin_ok (p:Pg) (is:Nat→Ins) (x y:Pv) (d e:Pd) (w:World) (hn:p.n≤9223372036854775807) (hc:CodeAt w p is) (hx:PicIs w x d) (hy:PicIs w y e) (h0:cp2 p is d e=0):
  Calls Tryz.prog 32 #[p.v,x.v,y.v] w fun q w'=>∃ r:Pv,q=.returned (.tuple #[r.v,.int .i64 0])∧GotP w w' r (bothP both d e):=by
 have HR:=Lib.hid (fun (b:Nat) (w' : World) (hb:Below w.heap.size w w') (hh:w'.heap[b]? = some (.cells (x.cells++y.cells).toArray 54 (0,0)))=>(show Calls Tryz.prog 56 #[p.v,.slice (some ⟨b,0,none⟩) 2 2] w' fun q w2=>q=.returned (.int .i64 (cp2 p is d e))∧Below w'.heap.size w' w2 from pready_any p is (some ⟨b,0,none⟩) 2 2 (pick2 x y) (pick2 d e) w' hn (hc.grow hb) (pics2 hh (hx.grow hb) (hy.grow hb))))
 rw[h0]at HR
 have HB:=Lib.hid (fun w' (hb:Below w.heap.size w w')=>pboth_any 72 both enterB both_any x y d e w' (hx.grow hb) (hy.grow hb) (both_conds h0).1 (both_conds h0).2.1 (both_conds h0).2.2)
 clear hc hx hy h0
 have hL:=Loc.start w
 go_enter Tryz.func32,Tryz.ntmps32
 go_wp2_with (first|(with_reducible first|refine lld hL ?_|((first|refine lbx hL ?_|refine lal hL ?_|refine lbs hL ?_);clear hL;intro bl w1 hL)|(refine lst' hL ?_;clear hL;intro w1 hL))|(go_at_call 56;refine(HR.out bl _ hL.below (hL.heap cIn)).mono ?_;rintro e w1 ⟨rfl,hb⟩;replace hL:=hL.grow hb;clear hb;dsimp only)|(go_at_call 71;refine(HB.out _ hL.below).mono ?_;rintro q w3 ⟨⟨rn,⟨vp,vn,vc⟩,⟨fp,fn,fc⟩⟩,rfl,gv,gf,rs,Rv,Rh,Rf,hrn,hO,hl3⟩;replace hL:=hL.gave hl3;simp only[List.cons_append,List.nil_append]at hL;clear hl3;dsimp only))
 (try simp only[Exit.inBlock,Exit.then]);refine rt2 ?_
 exact⟨⟨rn,⟨vp,vn,vc⟩,⟨fp,fn,fc⟩⟩,rfl,gv,gf,rs,Rv,Rh,Rf,hrn,hO,hL.drop (List.sublist_append_right [_,_,_,_,_] _) (fun _ h=>h)⟩
theorem enterGI:∀ args w,(callFunc 130 args).run Tryz.prog w=.ok (.enter 130 args) w:=fun args w=>by kernel_rfl
theorem enterPI:∀ args w,(callFunc 128 args).run Tryz.prog w=.ok (.enter 128 args) w:=fun args w=>by kernel_rfl
abbrev insideD (d e:Res):Bool:=insideG (d.gu nilSl) (e.gu nilSl) d.l e.l
def insideRow (ds es:List Res):Bool:=equalN ds.length es.length fun k=>insideD (ds.getD k zeroD) (es.getD k zeroD)
def insideRows (fs gs:List (List Res)):Bool:=equalN fs.length gs.length fun k=>insideRow (fs.getD k []) (gs.getD k [])
def insideP (d e:Pd):Bool:=if (d.none || e.none)=true then d.none else insideRow d.vars e.vars&&insideRows d.fields e.fields
theorem pinside1_any (s t:Sl) (ds es:List Res) (w:World) (hs:RowIs w s ds) (ht:RowIs w t es):
  Calls Tryz.prog 128 #[s.v,t.v] w fun q w'=>q=.returned (.bool (insideRow ds es))∧Below w.heap.size w w':=by
 obtain⟨ss,hs1,hs2⟩:=hs.ex
 obtain⟨st,ht1,ht2⟩:=ht.ex
 have hE:=fun w' (hb:Below w.heap.size w w')=>equalGG s t (fun k=>(ds.getD k zeroD).gu (ss k)) (fun k=>(es.getD k zeroD).gu (st k)) (fun k=>insideD (ds.getD k zeroD) (es.getD k zeroD)) 130 w' hs.m ht.m (hs1.grow hb) (ht1.grow hb) enterGI (fun k hk1 hk2 w2 hb2=>ginside_any ((ds.getD k zeroD).gu (ss k)) ((es.getD k zeroD).gu (st k)) (ds.getD k zeroD).l (es.getD k zeroD).l w2 (((hs2 k hk1).grow hb).grow hb2) (((ht2 k hk2).grow hb).grow hb2))
 rw[show equalN s.n t.n (fun k=>insideD (ds.getD k zeroD) (es.getD k zeroD))=insideRow ds es by rw[hs.n,ht.n];rfl]at hE
 have HE:=Lib.hid hE
 clear hE hs ht hs1 hs2 ht1 ht2
 obtain⟨sp,sn,sc⟩:=s
 obtain⟨tp,tn,tc⟩:=t
 dsimp only[Sl.v]at HE ⊢
 have hL:=Loc.start w
 go_enter Tryz.func128,Tryz.ntmps128
 go_wp2_with (first|(with_reducible first|refine lld hL ?_|((first|refine lbx hL ?_|refine lal hL ?_|refine lbs hL ?_);clear hL;intro bl w1 hL)|(refine lst' hL ?_;clear hL;intro w1 hL))|(go_at_call 129;refine(HE.out _ hL.below).mono ?_;rintro e w1 ⟨rfl,hb⟩;replace hL:=hL.grow hb;clear hb;dsimp only))
 (try simp only[Exit.inBlock,Exit.then]);refine rt1 ?_
 exact⟨rfl,hL.below⟩
theorem pinside_any (x y:Pv) (d e:Pd) (w:World) (hx:PicIs w x d) (hy:PicIs w y e):
  Calls Tryz.prog 64 #[x.v,y.v] w fun q w'=>q=.returned (.bool (insideP d e))∧Below w.heap.size w w':=by
 have HV:=Lib.hid (fun w' (hb:Below w.heap.size w w')=>pinside1_any x.vars y.vars d.vars e.vars w' (hx.vars.grow hb) (hy.vars.grow hb))
 obtain⟨rx,hrx,hrx2⟩:=hx.fields.ex
 obtain⟨ry,hry,hry2⟩:=hy.fields.ex
 have hF:=fun w' (hb:Below w.heap.size w w')=>equalRR x.fields y.fields rx ry (fun k=>insideRow (d.fields.getD k []) (e.fields.getD k [])) 128 w' hx.fields.m hy.fields.m (hrx.grow hb) (hry.grow hb) enterPI (fun k hk1 hk2 w2 hb2=>pinside1_any (rx k) (ry k) (d.fields.getD k []) (e.fields.getD k []) w2 (((hrx2 k hk1).grow hb).grow hb2) (((hry2 k hk2).grow hb).grow hb2))
 rw[show equalN x.fields.n y.fields.n (fun k=>insideRow (d.fields.getD k []) (e.fields.getD k []))=insideRows d.fields e.fields by rw[hx.fields.n,hy.fields.n];rfl]at hF
 have HFF:=Lib.hid hF
 have HQ:=Lib.hid (show insideP d e=if (d.none || e.none)=true then d.none else insideRow d.vars e.vars&&insideRows d.fields e.fields from rfl)
 have hxe:=hx.e
 have hye:=hy.e
 clear hx hy hrx hry hrx2 hry2 hF
 obtain⟨xn,⟨xp,xvn,xc⟩,⟨xfp,xfn,xfc⟩⟩:=x
 obtain⟨yn,⟨yp,yvn,yc⟩,⟨yfp,yfn,yfc⟩⟩:=y
 dsimp only[Sl.v]at hxe hye HV HFF
 subst hxe hye
 generalize insideRow d.vars e.vars=a at HV HQ
 generalize insideRows d.fields e.fields=b at HFF HQ
 generalize insideP d e=q0 at HQ ⊢
 generalize d.none=xn at HQ ⊢
 generalize e.none=yn at HQ ⊢
 have hL:=Loc.start w
 go_enter Tryz.func64,Tryz.ntmps64
 cases xn with
 | true=>
  have HX:=Lib.hid (show q0=true from HQ.out)
  go_wp2_with (first|(with_reducible first|refine lld hL ?_|((first|refine lbx hL ?_|refine lal hL ?_|refine lbs hL ?_);clear hL;intro bl w1 hL)|(refine lst' hL ?_;clear hL;intro w1 hL)))
  (try simp only[Exit.inBlock,Exit.then]);refine rt1 ?_
  exact⟨by rw[HX.out];rfl,hL.below⟩
 | false=>
  cases yn with
  | true=>
   have HX:=Lib.hid (show q0=false from HQ.out)
   go_wp2_with (first|(with_reducible first|refine lld hL ?_|((first|refine lbx hL ?_|refine lal hL ?_|refine lbs hL ?_);clear hL;intro bl w1 hL)|(refine lst' hL ?_;clear hL;intro w1 hL)))
   (try simp only[Exit.inBlock,Exit.then]);refine rt1 ?_
   exact⟨by rw[HX.out];rfl,hL.below⟩
  | false=>
   have HX:=Lib.hid (show q0=(a&&b) from HQ.out)
   clear HQ
   go_upto_region 4 with(first|(with_reducible first|refine lld hL ?_|((first|refine lbx hL ?_|refine lal hL ?_|refine lbs hL ?_);clear hL;intro bl w1 hL)|(refine lst' hL ?_;clear hL;intro w1 hL)))
   refine seq_begin [14,15,16,17,18,19,20,21,22,23,24,25,26,27,4] ?_
   refine dv0 ?_
   refine dv0 ?_
   refine dv1 1 ?_
   refine dv0 ?_
   refine dv1 3 ?_
   apply draw_val
   ·intro g w hb v;replace hL:=hL.grow hb;have d0:=yv v 0;have d2:=yv v 2;have d4:=yv v 4;clear v;simp only[fillD,fLa,fLb,sTa,sTb];simp only[d0,d2,d4]
    go_wp2_with ((with_reducible refine(HV.out _ hL.below).mono ?_);rintro e w3 ⟨rfl,hb3⟩;dsimp only)
    exact⟨rfl,_,rfl,hb3,rfl⟩
   simp only[apN,apC]
   refine dv1 5 ?_
   refine dg0 6 ?_
   refine dg1 6 7 ?_
   refine dg0 6 ?_
   refine dg1 6 9 ?_
   refine dg0 6 ?_
   refine' draw_guard (j:=6) rfl rfl rfl (by decide) (by simp) ?_ ?_;rotate_left
   ·intro hcs;simp only[Bool.and_eq_true,beqT,beqF]at hcs;intro g w hb v;replace hL:=hL.grow hb;have d8:=yv v 8;simp only[hcs,beq_self_eq_true,Bool.and_self,Bool.true_and,Bool.and_true,cnd_true]at d8;have d10:=yv v 10;simp only[hcs,beq_self_eq_true,Bool.and_self,Bool.true_and,Bool.and_true,cnd_true]at d10;have d11:=yv v 11;simp only[hcs,beq_self_eq_true,Bool.and_self,Bool.true_and,Bool.and_true,cnd_true]at d11;clear v;simp only[fillD,fLa,fLb,sTa,sTb];simp only[d8,d10,d11]
    go_wp2_with (go_at_call 131;refine(HFF.out _ hL.below).mono ?_;rintro e w3 ⟨rfl,hb3⟩;dsimp only)
    exact⟨rfl,_,rfl,hb3,rfl⟩
   simp only[apN,apC]
   refine dpa 6 12 ?_
   refine dv1 13 ?_
   refine dns hL ?_
   clear hL;intro w2 hL;simp only[fillX,sTa,sTb]
   go_wp2_with (first|(with_reducible first|refine lld hL ?_|((first|refine lbx hL ?_|refine lal hL ?_|refine lbs hL ?_);clear hL;intro bl w1 hL)|(refine lst' hL ?_;clear hL;intro w1 hL)))
   (try simp only[Exit.inBlock,Exit.then]);refine rt1 ?_
   exact⟨by rw[HX.out];rfl,hL.below⟩
end Go.Proofs.YteoilpcbekijlaaGreatDoor
set_option linter.unusedSimpArgs false
set_option linter.unusedVariables false
set_option maxRecDepth 100000
namespace Go.Proofs.YteoilpcbekijlaaGreatDoor
open Go.RowKit
theorem end0 {P:Program}{fn:Func}{R:Ending→World→Prop}{a:Act}{w:World}(hr:fn.results=#[]) (hd:a.defers=[]) (hR:R (.returned (.tuple #[])) w):bodyPost P fn R .normal a w:=
 bodyPost_end (v:=.tuple #[]) (by rw[results_eq,hr];simp) hd hR
theorem ret0 {P:Program}{fn:Func}{R:Ending→World→Prop}{a:Act}{w:World}(hr:fn.results=#[]) (hd:a.defers=[]) (hR:R (.returned (.tuple #[])) w):bodyPost P fn R .ret a w:=
 bodyPost_ret (v:=.tuple #[]) (by rw[results_eq,hr];simp) hd hR
end Go.Proofs.YteoilpcbekijlaaGreatDoor
