import Derived.Test.YtajgekeiflblnaaGreatOpn
import Derived.Test.YtajgekeiflblnaaGreatGua
import Derived.Test.YtajgekeiflblnaaGreatGue
set_option linter.unusedSimpArgs false
set_option linter.unusedVariables false
set_option maxRecDepth 100000
namespace Go.Proofs.YtajgekeiflblnaaGreat
open Go.RowKit
open Go.ChangeShapes Go.WideShapes Go.ChangeAt Go.RowKit Go.Deep Go.Joins
section
variable {H:Type}{enc:TypeId × Value→H}{w:World}{base:Nat}{spare:Nat→Bool}{held:Bool}
theorem ListC.intsAt {w:World}{s:Sl}{g:Nat→Int}(hn:s.n≤9223372036854775807) (h:ListC w 1 s.p s.n (fun k=>[.int .i64 (g k)])):IntsAt w s ((List.range s.n).map g):=by
 obtain⟨b,o,h1,h2⟩:=h.ex
 refine⟨by simp,by simpa using hn,b,o,by simpa using h1,fun k hk=>?_⟩
 have hk' : k<s.n:=by simpa using hk
 refine⟨(h2 k hk').1,fun j v hj=>(h2 k hk').2 j v ?_⟩
 simpa [List.getD_eq_getElem?_getD,hk'] using hj
theorem open_span {fuel:Nat}{cs:List Value}{x:DataW H × List MemPlace}(h:DataW.trod enc Tryz.prog w base spare held fuel 56 cs=some x):∃ s:Span,cs=[.bool s.none,.int .i64 s.lo,.int .i64 s.hi]:=by
 obtain⟨parts,ys,n,rfl,hpl,-,-,hf⟩:=open_struct Tryz.underlying56 (by kernel_rfl) h
 obtain⟨a,b,c,rfl⟩:=list_len3 hpl
 obtain⟨_,y0,p0,-,t0⟩:=hf 0 _ rfl
 obtain⟨_,y1,p1,-,t1⟩:=hf 1 _ rfl
 obtain⟨_,y2,p2,-,t2⟩:=hf 2 _ rfl
 cases p0;cases p1;cases p2
 obtain⟨k0,rfl,-⟩:=DataW.trod_bool Tryz.underlying4 t0
 obtain⟨k1,rfl,-,-⟩:=DataW.trod_int Tryz.underlying3 t1
 obtain⟨k2,rfl,-,-⟩:=DataW.trod_int Tryz.underlying3 t2
 exact⟨⟨k0,k1,k2⟩,rfl⟩
theorem open_guess {fuel:Nat}{cs:List Value}{x:DataW H × List MemPlace}(h:DataW.trod enc Tryz.prog w base spare held fuel 59 cs=some x):∃ (g:Gu) (l:List Int),cs=g.cells∧IntsAt w g.s l:=by
 obtain⟨parts,ys,n,rfl,hpl,-,-,hf⟩:=open_struct Tryz.underlying59 (by kernel_rfl) h
 obtain⟨a,b,c,d,e,rfl⟩:=list_len5 hpl
 obtain⟨_,y0,p0,-,t0⟩:=hf 0 _ rfl
 obtain⟨_,y1,p1,-,t1⟩:=hf 1 _ rfl
 obtain⟨_,y2,p2,-,t2⟩:=hf 2 _ rfl
 obtain⟨_,y3,p3,-,t3⟩:=hf 3 _ rfl
 obtain⟨_,y4,p4,-,t4⟩:=hf 4 _ rfl
 cases p0;cases p1;cases p2;cases p3;cases p4
 obtain⟨k0,rfl,-⟩:=DataW.trod_bool Tryz.underlying4 t0
 obtain⟨s,rfl⟩:=open_span t1
 obtain⟨k2,rfl,-⟩:=DataW.trod_bool Tryz.underlying4 t2
 obtain⟨k3,rfl,-⟩:=DataW.trod_bool Tryz.underlying4 t3
 obtain⟨sl,g,rfl,hn,hl⟩:=open_inputs t4
 exact⟨⟨k0,s,k2,k3,sl⟩,_,rfl,hl.intsAt hn⟩
end
end Go.Proofs.YtajgekeiflblnaaGreat
set_option linter.unusedSimpArgs false
set_option linter.unusedVariables false
namespace Go.Proofs.YtajgekeiflblnaaGreat
open Go.RowKit
open Go.ChangeShapes Go.WideShapes Go.ChangeAt Go.RowKit Go.Deep Go.Joins
section
variable {H:Type}{enc:TypeId × Value→H}{w:World}{base:Nat}{spare:Nat→Bool}{held:Bool}
instance : Inhabited (Gu × List Int):=⟨(zeroG,[])⟩
instance : Inhabited (Sl × List Res):=⟨(nilSl,[])⟩
abbrev resOf (a:Gu × List Int):Res:=⟨a.1.null,a.1.span,a.1.tr,a.1.fa,a.2⟩
theorem open_row {fuel:Nat}{cs:List Value}{x:DataW H × List MemPlace}(h:DataW.trod enc Tryz.prog w base spare held fuel 25 cs=some x):
  ∃ (s:Sl) (ds:List Res),cs=[.slice s.p s.n s.cap]∧RowIs w s ds∧TopS x.1 s.n:=by
 obtain⟨p,n,cap,g,h1,h2,h3,h4,h5⟩:=open_list (fun a:Gu × List Int=>Gu.cells a.1) (fun a=>IntsAt w a.1.s a.2) Tryz.underlying25 (by rw[show Tryz.prog.cellsOf 59=7 by kernel_rfl];decide) (fun n cs y hy=>by
  obtain⟨gu,l,e1,e2⟩:=open_guess hy
  exact⟨(gu,l),e1,e2⟩) h
 rw[show Tryz.prog.cellsOf 59=7 by kernel_rfl]at h3
 have hg:∀ k,k<n→((List.range n).map fun k=>resOf (g k)).getD k zeroD=resOf (g k):=fun k hk=>getD_map_range _ _ _ _ hk
 refine⟨⟨p,n,cap⟩,(List.range n).map fun k=>resOf (g k),h1,⟨by simp,h2,fun k=>(g k).1.s,h3.congr fun k hk=>?_,fun k hk=>?_⟩,h5⟩
 ·rw[hg k hk]
 ·rw[hg k hk];exact h4 k hk
theorem open_rows {fuel:Nat}{cs:List Value}{x:DataW H × List MemPlace}(h:DataW.trod enc Tryz.prog w base spare held fuel 26 cs=some x):
  ∃ (s:Sl) (dss:List (List Res)),cs=[.slice s.p s.n s.cap]∧RowsIs w s dss∧TopS x.1 s.n:=by
 obtain⟨p,n,cap,g,h1,h2,h3,h4,h5⟩:=open_list (fun a:Sl × List Res=>[Value.slice a.1.p a.1.n a.1.cap]) (fun a=>RowIs w a.1 a.2) Tryz.underlying26 (by rw[show Tryz.prog.cellsOf 25=1 by kernel_rfl];decide) (fun n cs y hy=>by
  obtain⟨s,ds,e1,e2,-⟩:=open_row hy
  exact⟨(s,ds),e1,e2⟩) h
 rw[show Tryz.prog.cellsOf 25=1 by kernel_rfl]at h3
 have hg:∀ k,k<n→((List.range n).map fun k=>(g k).2).getD k []=(g k).2:=fun k hk=>getD_map_range _ _ _ _ hk
 refine⟨⟨p,n,cap⟩,(List.range n).map fun k=>(g k).2,h1,⟨by simp,h2,fun k=>(g k).1,h3,fun k hk=>?_⟩,h5⟩
 rw[hg k hk];exact h4 k hk
structure PicPre (w:World) (x:Pv) (d:Pd):Prop where
 e:x.none=d.none
 vars:RowIs w x.vars d.vars
 fields:RowsIs w x.fields d.fields
theorem open_pic {fuel:Nat}{cs:List Value}{dd:DataW H}{ps:List MemPlace}(h:DataW.trod enc Tryz.prog w base spare held fuel 28 cs=some (dd,ps)):
  ∃ (x:Pv) (d:Pd),cs=x.cells∧PicPre w x d∧∃ ys:List (DataW H),dd=.agg ys∧(∃ y,ys[1]? = some y∧TopS y x.vars.n)∧∃ y,ys[2]? = some y∧TopS y x.fields.n:=by
 obtain⟨parts,ys,n,rfl,hpl,hd,hyl,hf⟩:=open_struct Tryz.underlying28 (by kernel_rfl) h
 obtain⟨a,b,c,rfl⟩:=list_len3 hpl
 obtain⟨_,y0,p0,-,t0⟩:=hf 0 _ rfl
 obtain⟨_,y1,p1,q1,t1⟩:=hf 1 _ rfl
 obtain⟨_,y2,p2,q2,t2⟩:=hf 2 _ rfl
 cases p0;cases p1;cases p2
 obtain⟨k0,rfl,-⟩:=DataW.trod_bool Tryz.underlying4 t0
 obtain⟨s1,d1,rfl,r1,top1⟩:=open_row t1
 obtain⟨s2,d2,rfl,r2,top2⟩:=open_rows t2
 exact⟨⟨k0,s1,s2⟩,⟨k0,d1,d2⟩,rfl,⟨rfl,r1,r2⟩,ys.map (·.1),hd,⟨y1.1,by simp[q1],top1⟩,y2.1,by simp[q2],top2⟩
end
section
variable {H:Type}
end
end Go.Proofs.YtajgekeiflblnaaGreat
