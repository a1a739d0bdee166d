import Derived.Test.YteoilpcbekijlaaGreatDoorVal
set_option linter.unusedSimpArgs false
set_option linter.unusedVariables false
set_option maxRecDepth 100000
set_option maxHeartbeats 8000000
namespace Go.Proofs.YteoilpcbekijlaaGreatDoor
open Go.RowKit
structure RunL (w:World) (r:Rn) (vs:Nat→Vl) (ths:Nat→Th) (fv:Nat→Nat→Vl):Prop where
 vars:ListAt Tryz.prog 81 2 w r.vars.p r.vars.n (fun k=>(vs k).v)
 things:ListAt Tryz.prog 83 2 w r.things.p r.things.n (fun k=>(ths k).v)
 fields:∀ k,k<r.things.n→(ths k).fs.n≤9223372036854775807∧ListAt Tryz.prog 81 2 w (ths k).fs.p (ths k).fs.n (fun j=>(fv k j).v)
 n1:r.vars.n≤9223372036854775807
 n2:r.things.n≤9223372036854775807
theorem RunL.grow {w w' : World}{r:Rn}{vs:Nat→Vl}{ths:Nat→Th}{fv:Nat→Nat→Vl}(h:RunL w r vs ths fv) (hb:Below w.heap.size w w'):RunL w' r vs ths fv:=
 ⟨h.vars.grow hb,h.things.grow hb,fun k hk=>⟨(h.fields k hk).1,(h.fields k hk).2.grow hb⟩,h.n1,h.n2⟩
def placeBad (p:Pg) (r:Rn):Bool:=decide (r.at' < 0) || decide ((p.n:Int)<r.at') || decide (r.taken<0) || decide (r.ending<0) || decide (5<r.ending)
def siteBad (p:Pg) (is:Nat→Ins) (r:Rn) (ths:Nat→Th):Bool:=anyN (fun k=>!isSite p is (ths k).site) r.things.n
def lenBad (p:Pg) (r:Rn) (ths:Nat→Th):Bool:=anyN (fun k=>((ths k).fs.n:Int) != p.fields) r.things.n
def varBad (r:Rn) (vs:Nat→Vl):Bool:=anyN (fun k=>!isValue (vs k) r.things.n) r.vars.n
def fieldBad (r:Rn) (ths:Nat→Th) (fv:Nat→Nat→Vl):Bool:=anyN (fun k=>anyN (fun j=>!isValue (fv k j) r.things.n) (ths k).fs.n) r.things.n
def rightRun (p:Pg) (is:Nat→Ins) (r:Rn) (vs:Nat→Vl) (ths:Nat→Th) (fv:Nat→Nat→Vl):Int:=
 if placeBad p r then 3 else if (r.vars.n:Int) != p.vars then 1 else if 100<r.things.n then 2 else if siteBad p is r ths then 5 else if lenBad p r ths then 1 else if varBad r vs then 4 else if fieldBad r ths fv then 4 else 0
theorem right_any (p:Pg) (is:Nat→Ins) (r:Rn) (vs:Nat→Vl) (ths:Nat→Th) (fv:Nat→Nat→Vl) (w:World) (hn:p.n≤9223372036854775807) (hc:CodeAt w p is) (hr:RunL w r vs ths fv):
  Calls Tryz.prog 57 #[p.v,r.v] w fun e w'=>e=.returned (.int .i64 (rightRun p is r vs ths fv))∧Below w.heap.size w w':=by
 have n1:=hr.n1
 have n2:=hr.n2
 have HC:=Lib.hid hc
 have HR:=Lib.hid hr
 have HF:=Lib.hid (show rightRun p is r vs ths fv=if placeBad p r then 3 else if (r.vars.n:Int) != p.vars then 1 else if 100<r.things.n then 2 else if siteBad p is r ths then 5 else if lenBad p r ths then 1 else if varBad r vs then 4 else if fieldBad r ths fv then 4 else 0 from rfl)
 clear hc hr
 have hL:=Loc.start w
 go_enter Tryz.func57,Tryz.ntmps57
 go_step
 go_step
 go_step
 ((with_reducible refine lbx hL ?_);clear hL;intro b2 w1 hL)
 ((with_reducible refine lbx hL ?_);clear hL;intro b3 w1 hL)
 go_upto_region 1 with(first|(with_reducible first|refine lld hL ?_|((first|refine lbx hL ?_|refine lal hL ?_|refine lbs hL ?_);clear hL;intro bl w1 hL)|(refine lst' hL ?_;clear hL;intro w1 hL)))
 refine seq_begin [7,8,9,10,11,12,13,14,15,16,17,18,19,20,21,22,23,24,25,26,27,28,29,30,31,32,6] ?_
 refine dv0 ?_
 refine dv1 0 ?_
 refine dv1 1 ?_
 refine dv1 2 ?_
 refine dg0 3 ?_
 refine dg1 3 4 ?_
 refine dg0 3 ?_
 refine dg1 3 6 ?_
 refine dg1 3 7 ?_
 refine dg2 3 5 8 ?_
 refine dpo 3 9 ?_
 refine dv1 10 ?_
 refine dg0 11 ?_
 refine dg1 11 12 ?_
 refine dg1 11 13 ?_
 refine dpo 11 14 ?_
 refine dv1 15 ?_
 refine dg0 16 ?_
 refine dg1 16 17 ?_
 refine dg1 16 18 ?_
 refine dpo 16 19 ?_
 refine dv1 20 ?_
 refine dg0 21 ?_
 refine dg1 21 22 ?_
 refine dg1 21 23 ?_
 refine dpo 21 24 ?_
 refine dv1 25 ?_
 refine dns hL ?_
 clear hL;intro w2 hL;simp only[fillX,sTa,sTb]
 cases h1:placeBad p r with
 | true=>
  have h0:=h1
  unfold placeBad at h0
  simp only[h0]
  clear h0
  have H:=Lib.hid h1
  clear h1
  go_wp2_with (first|(with_reducible first|refine lld hL ?_|((first|refine lbx hL ?_|refine lal hL ?_|refine lbs hL ?_);clear hL;intro bl w1 hL)|(refine lst' hL ?_;clear hL;intro w1 hL)))
  (try simp only[Exit.inBlock,Exit.then]);refine rt1 ?_
  exact⟨by rw[HF.out,if_pos H.out];rfl,hL.below⟩
 | false=>
 have h0:=h1
 unfold placeBad at h0
 simp only[h0]
 clear h0
 have Hh1:=Lib.hid h1
 clear h1
 by_cases hv:(r.vars.n:Int)=p.vars
 case neg=>
  have hv2:((r.vars.n:Int) != p.vars)=true:=by simp[hv]
  have H:=Lib.hid hv2
  clear hv
  go_wp2_with (first|(with_reducible first|refine lld hL ?_|((first|refine lbx hL ?_|refine lal hL ?_|refine lbs hL ?_);clear hL;intro bl w1 hL)|(refine lst' hL ?_;clear hL;intro w1 hL)))
  (try simp only[Exit.inBlock,Exit.then]);refine rt1 ?_
  exact⟨by rw[HF.out,if_neg (by rw[Hh1.out];decide),if_pos H.out];rfl,hL.below⟩
 have hv2:((r.vars.n:Int) != p.vars)=false:=by simp[hv]
 have Hhv:=Lib.hid hv2
 clear hv
 by_cases ht:100<r.things.n
 ·go_wp2_with (first|(with_reducible first|refine lld hL ?_|((first|refine lbx hL ?_|refine lal hL ?_|refine lbs hL ?_);clear hL;intro bl w1 hL)|(refine lst' hL ?_;clear hL;intro w1 hL)))
  (try simp only[Exit.inBlock,Exit.then]);refine rt1 ?_
  exact⟨by rw[HF.out,if_neg (by rw[Hh1.out];decide),if_neg (by rw[Hhv.out];decide),if_pos ht];rfl,hL.below⟩
 go_upto_region 7 with(first|(with_reducible first|refine lld hL ?_|((first|refine lbx hL ?_|refine lal hL ?_|refine lbs hL ?_);clear hL;intro bl w1 hL)|(refine lst' hL ?_;clear hL;intro w1 hL)))
 have Ht:=Lib.hid ht
 clear ht hv2
 have hcl:=containsThings r.things.p r.things.n r.things.cap (fun k=>(ths k).v) (fun k=>!isSite p is (ths k).site) 105 (.pointer (some ⟨b2,0,none⟩)) _ n2 (HR.out.things.grow hL.below) ⟨enter1,fun k _ w' hb=>right1_any p is (ths k) b2 w' ((hL.readsAt (b:=b2) (Tv:=27) (off:=0) (v:=p.v) cIn (Reads.agg tProg rfl rfl)).grow hb) ((HC.out.grow hL.below).grow hb)⟩
 rw[show anyN (fun k=>!isSite p is (ths k).site) r.things.n=siteBad p is r ths from rfl]at hcl
 cases h4:siteBad p is r ths with
 | true=>
  rw[h4]at hcl
  have HCL:=Lib.hid hcl
  have H:=Lib.hid h4
  clear hcl h4
  go_wp2_with (first|(with_reducible first|refine lld hL ?_|((first|refine lbx hL ?_|refine lal hL ?_|refine lbs hL ?_);clear hL;intro bl w1 hL)|(refine lst' hL ?_;clear hL;intro w1 hL))|(go_at_call 104;((with_reducible refine(HCL.out).mono ?_);rintro e w1 ⟨rfl,hb⟩;replace hL:=hL.grow hb;clear hb;dsimp only)))
  (try simp only[Exit.inBlock,Exit.then]);refine rt1 ?_
  exact⟨by rw[HF.out,if_neg (by rw[Hh1.out];decide),if_neg (by rw[Hhv.out];decide),if_neg Ht.out,if_pos H.out];rfl,hL.below⟩
 | false=>
 rw[h4]at hcl
 have HCL:=Lib.hid hcl
 have Hh4:=Lib.hid h4
 clear hcl h4
 go_upto_region 9 with(first|(with_reducible first|refine lld hL ?_|((first|refine lbx hL ?_|refine lal hL ?_|refine lbs hL ?_);clear hL;intro bl w1 hL)|(refine lst' hL ?_;clear hL;intro w1 hL))|(go_at_call 104;((with_reducible refine(HCL.out).mono ?_);rintro e w1 ⟨rfl,hb⟩;replace hL:=hL.grow hb;clear hb;dsimp only)))
 clear HCL
 have hcl:=containsThings r.things.p r.things.n r.things.cap (fun k=>(ths k).v) (fun k=>((ths k).fs.n:Int) != p.fields) 107 (.pointer (some ⟨b2,0,none⟩)) _ n2 (HR.out.things.grow hL.below) ⟨enter2,fun k _ w' hb=>right2_any p.fields (ths k) b2 w' ((hL.readsAt (b:=b2) (Tv:=3) (off:=1) (v:=.int .i64 p.fields) cIn (Reads.cell tInt rfl)).grow hb)⟩
 rw[show anyN (fun k=>((ths k).fs.n:Int) != p.fields) r.things.n=lenBad p r ths from rfl]at hcl
 cases h5:lenBad p r ths with
 | true=>
  rw[h5]at hcl
  have HCL:=Lib.hid hcl
  have H:=Lib.hid h5
  clear hcl h5
  go_wp2_with (first|(with_reducible first|refine lld hL ?_|((first|refine lbx hL ?_|refine lal hL ?_|refine lbs hL ?_);clear hL;intro bl w1 hL)|(refine lst' hL ?_;clear hL;intro w1 hL))|(go_at_call 104;((with_reducible refine(HCL.out).mono ?_);rintro e w1 ⟨rfl,hb⟩;replace hL:=hL.grow hb;clear hb;dsimp only)))
  (try simp only[Exit.inBlock,Exit.then]);refine rt1 ?_
  exact⟨by rw[HF.out,if_neg (by rw[Hh1.out];decide),if_neg (by rw[Hhv.out];decide),if_neg Ht.out,if_neg (by rw[Hh4.out];decide),if_pos H.out];rfl,hL.below⟩
 | false=>
 rw[h5]at hcl
 have HCL:=Lib.hid hcl
 have Hh5:=Lib.hid h5
 clear hcl h5
 go_upto_region 11 with(first|(with_reducible first|refine lld hL ?_|((first|refine lbx hL ?_|refine lal hL ?_|refine lbs hL ?_);clear hL;intro bl w1 hL)|(refine lst' hL ?_;clear hL;intro w1 hL))|(go_at_call 104;((with_reducible refine(HCL.out).mono ?_);rintro e w1 ⟨rfl,hb⟩;replace hL:=hL.grow hb;clear hb;dsimp only)))
 clear HCL
 go_upto_region 12 with(first|(with_reducible first|refine lld hL ?_|((first|refine lbx hL ?_|refine lal hL ?_|refine lbs hL ?_);clear hL;intro bl w1 hL)|(refine lst' hL ?_;clear hL;intro w1 hL)))
 obtain⟨b5,hb5⟩:∃ x,x=bl:=⟨_,rfl⟩
 subst hb5
 have hcv:=containsValues r.vars.p r.vars.n r.vars.cap (fun k=>(vs k).v) (fun k=>!isValue (vs k) r.things.n) 108 (.pointer (some ⟨b3,0,none⟩)) _ n1 (HR.out.vars.grow hL.below) (fn3 r.things b3 _ n2 (hL.readsAt (b:=b3) (Tv:=43) (off:=2) (v:=r.things.v) cIn (Reads.cell tThings rfl)) r.vars.n vs)
 rw[show anyN (fun k=>!isValue (vs k) r.things.n) r.vars.n=varBad r vs from rfl]at hcv
 have hct:=fun w' (hb:Below _ _ w')=>containsThings r.things.p r.things.n r.things.cap (fun k=>(ths k).v) (fun k=>anyN (fun j=>!isValue (fv k j) r.things.n) (ths k).fs.n) 111 (.pointer (some ⟨b5,0,none⟩)) w' n2 ((HR.out.things.grow hL.below).grow hb) ⟨enter4,fun k hk w2 hb2=>right4_any r.things (ths k) (fv k) b3 b5 w2 n2 (HR.out.fields k hk).1 (((hL.readsAt (b:=b3) (Tv:=43) (off:=2) (v:=r.things.v) cIn (Reads.cell tThings rfl)).grow hb).grow hb2) (((hL.readsAt (b:=b5) (Tv:=145) (off:=0) (v:=.func (.func 108) #[] #[.pointer (some ⟨b3,0,none⟩)]) cIn (Reads.cell tFun rfl)).grow hb).grow hb2) ((((HR.out.fields k hk).2.grow hL.below).grow hb).grow hb2)⟩
 rw[show anyN (fun k=>anyN (fun j=>!isValue (fv k j) r.things.n) (ths k).fs.n) r.things.n=fieldBad r ths fv from rfl]at hct
 have HCT0:=Lib.hid hct
 clear hct
 cases hvb:varBad r vs with
 | true=>
  rw[hvb]at hcv
  have HCV:=Lib.hid hcv
  have H:=Lib.hid hvb
  clear hcv hvb
  go_wp2_with (first|(with_reducible first|refine lld hL ?_|((first|refine lbx hL ?_|refine lal hL ?_|refine lbs hL ?_);clear hL;intro bl w1 hL)|(refine lst' hL ?_;clear hL;intro w1 hL))|(go_at_call 110;((with_reducible refine(HCV.out).mono ?_);rintro e w4 ⟨rfl,hbv⟩;replace hL:=hL.grow hbv;dsimp only))|(go_at_call 104;((with_reducible refine(HCT.out _ hbv).mono ?_);rintro e w1 ⟨rfl,hb⟩;replace hL:=hL.grow hb;clear hb;dsimp only)))
  (try simp only[Exit.inBlock,Exit.then]);refine rt1 ?_
  exact⟨by rw[HF.out,if_neg (by rw[Hh1.out];decide),if_neg (by rw[Hhv.out];decide),if_neg Ht.out,if_neg (by rw[Hh4.out];decide),if_neg (by rw[Hh5.out];decide),if_pos H.out];rfl,hL.below⟩
 | false=>
 rw[hvb]at hcv
 have HCV:=Lib.hid hcv
 have Hhvb:=Lib.hid hvb
 clear hcv hvb
 have hct:=HCT0.out
 cases hfb:fieldBad r ths fv with
 | true=>
  rw[hfb]at hct
  have HCT:=Lib.hid hct
  have H:=Lib.hid hfb
  clear hct hfb
  go_wp2_with (first|(with_reducible first|refine lld hL ?_|((first|refine lbx hL ?_|refine lal hL ?_|refine lbs hL ?_);clear hL;intro bl w1 hL)|(refine lst' hL ?_;clear hL;intro w1 hL))|(go_at_call 110;((with_reducible refine(HCV.out).mono ?_);rintro e w4 ⟨rfl,hbv⟩;replace hL:=hL.grow hbv;dsimp only))|(go_at_call 104;((with_reducible refine(HCT.out _ hbv).mono ?_);rintro e w1 ⟨rfl,hb⟩;replace hL:=hL.grow hb;clear hb;dsimp only)))
  (try simp only[Exit.inBlock,Exit.then]);refine rt1 ?_
  exact⟨by rw[HF.out,if_neg (by rw[Hh1.out];decide),if_neg (by rw[Hhv.out];decide),if_neg Ht.out,if_neg (by rw[Hh4.out];decide),if_neg (by rw[Hh5.out];decide),if_neg (by rw[Hhvb.out];decide),if_pos H.out];rfl,hL.below⟩
 | false=>
  rw[hfb]at hct
  have HCT:=Lib.hid hct
  have H:=Lib.hid hfb
  clear hct hfb
  go_wp2_with (first|(with_reducible first|refine lld hL ?_|((first|refine lbx hL ?_|refine lal hL ?_|refine lbs hL ?_);clear hL;intro bl w1 hL)|(refine lst' hL ?_;clear hL;intro w1 hL))|(go_at_call 110;((with_reducible refine(HCV.out).mono ?_);rintro e w4 ⟨rfl,hbv⟩;replace hL:=hL.grow hbv;dsimp only))|(go_at_call 104;((with_reducible refine(HCT.out _ hbv).mono ?_);rintro e w1 ⟨rfl,hb⟩;replace hL:=hL.grow hb;clear hb;dsimp only)))
  (try simp only[Exit.inBlock,Exit.then]);refine rt1 ?_
  exact⟨by rw[HF.out,if_neg (by rw[Hh1.out];decide),if_neg (by rw[Hhv.out];decide),if_neg Ht.out,if_neg (by rw[Hh4.out];decide),if_neg (by rw[Hh5.out];decide),if_neg (by rw[Hhvb.out];decide),if_neg (by rw[H.out];decide)];rfl,hL.below⟩
def checkRun (p:Pg) (is:Nat→Ins) (r:Rn) (vs:Nat→Vl) (ths:Nat→Th) (fv:Nat→Nat→Vl):Int:=if checkProg p is=0 then rightRun p is r vs ths fv else checkProg p is
theorem runCheck_any (p:Pg) (is:Nat→Ins) (r:Rn) (vs:Nat→Vl) (ths:Nat→Th) (fv:Nat→Nat→Vl) (w:World) (hn:p.n≤9223372036854775807) (hc:CodeAt w p is) (hr:RunL w r vs ths fv):
  Calls Tryz.prog 47 #[p.v,r.v] w fun e w'=>e=.returned (.int .i64 (checkRun p is r vs ths fv))∧Below w.heap.size w w':=by
 have HK:=Lib.hid (fun w' (hb:Below w.heap.size w w')=>codeCheck_any p is w' (hc.grow hb) hn)
 have HR:=Lib.hid (fun w' (hb:Below w.heap.size w w')=>right_any p is r vs ths fv w' hn (hc.grow hb) (hr.grow hb))
 clear hc hr
 have hL:=Loc.start w
 by_cases h0:checkProg p is=0
 ·have HF:=Lib.hid (show checkRun p is r vs ths fv=rightRun p is r vs ths fv by simp[checkRun,h0])
  have hk:=HK.out
  rw[h0]at hk
  have HK2:=Lib.hid hk
  clear hk h0
  go_enter Tryz.func47,Tryz.ntmps47
  go_wp2_with (first|(with_reducible first|refine lld hL ?_|((first|refine lbx hL ?_|refine lal hL ?_|refine lbs hL ?_);clear hL;intro bl w1 hL)|(refine lst' hL ?_;clear hL;intro w1 hL))|(go_at_call 48;refine(HK2.out _ hL.below).mono ?_;rintro e w1 ⟨rfl,hb⟩;replace hL:=hL.grow hb;clear hb;dsimp only)|(go_at_call 57;refine(HR.out _ hL.below).mono ?_;rintro e w1 ⟨rfl,hb⟩;replace hL:=hL.grow hb;clear hb;dsimp only))
  (try simp only[Exit.inBlock,Exit.then]);refine rt1 ?_
  exact⟨by rw[HF.out];rfl,hL.below⟩
 ·have HF:=Lib.hid (show checkRun p is r vs ths fv=checkProg p is by simp[checkRun,h0])
  have hne:(checkProg p is != 0)=true:=by simp[h0]
  have hk:=HK.out
  generalize checkProg p is=c at hk hne HF
  have HK2:=Lib.hid hk
  clear hk h0
  go_enter Tryz.func47,Tryz.ntmps47
  go_wp2_with (first|(with_reducible first|refine lld hL ?_|((first|refine lbx hL ?_|refine lal hL ?_|refine lbs hL ?_);clear hL;intro bl w1 hL)|(refine lst' hL ?_;clear hL;intro w1 hL))|(go_at_call 48;refine(HK2.out _ hL.below).mono ?_;rintro e w1 ⟨rfl,hb⟩;replace hL:=hL.grow hb;clear hb;dsimp only))
  (try simp only[Exit.inBlock,Exit.then]);refine rt1 ?_
  exact⟨by rw[HF.out];rfl,hL.below⟩
def diffAt (x y:Nat→Vl) (k:Nat):Bool:=!((x k).kind==(y k).kind&&(x k).n==(y k).n)
def sameVals (n m:Nat) (x y:Nat→Vl):Bool:=n==m && !(anyN (diffAt x y) n)
theorem ListC.cell {P:Program}{T:TypeId}{w:World}{es:Nat}{p:Option Addr}{n:Nat}{cells:Nat→List Value}(hT:CellT P T) (h:ListC w es p n cells):
  ∃ b o:Nat,(0<n→p=some ⟨b,o,none⟩)∧∀ k,k<n→∀ j v,(cells k)[j]? = some v→ReadsAt P T w b (o+k*es+j) v:=by
 obtain⟨b,o,h1,h2⟩:=h.ex
 exact⟨b,o,h1,fun k hk j v hj=>ReadsAt.cell hT (h2 k hk).1 ((h2 k hk).2 j v hj)⟩
structure RunAt (w:World) (r:Rn) (vs:Nat→Vl) (ths:Nat→Th) (fv:Nat→Nat→Vl) (ls:Nat→ByteArray):Prop where
 vars:ListC w 2 r.vars.p r.vars.n (fun k=>(vs k).cells)
 things:ListC w 2 r.things.p r.things.n (fun k=>[.int .i64 (ths k).site,.slice (ths k).fs.p (ths k).fs.n (ths k).fs.cap])
 fields:∀ k,k<r.things.n→(ths k).fs.n≤9223372036854775807∧ListC w 2 (ths k).fs.p (ths k).fs.n (fun j=>(fv k j).cells)
 lines:ListC w 1 r.lines.p r.lines.n (fun k=>[.string (ls k)])
 n1:r.vars.n≤9223372036854775807
 n2:r.things.n≤9223372036854775807
 n3:r.lines.n≤9223372036854775807
theorem RunAt.grow {w w' : World}{r:Rn}{vs:Nat→Vl}{ths:Nat→Th}{fv:Nat→Nat→Vl}{ls:Nat→ByteArray}(h:RunAt w r vs ths fv ls) (hb:Below w.heap.size w w'):RunAt w' r vs ths fv ls:=
 ⟨h.vars.grow hb,h.things.grow hb,fun k hk=>⟨(h.fields k hk).1,(h.fields k hk).2.grow hb⟩,h.lines.grow hb,h.n1,h.n2,h.n3⟩
theorem RunAt.l {w:World}{r:Rn}{vs:Nat→Vl}{ths:Nat→Th}{fv:Nat→Nat→Vl}{ls:Nat→ByteArray}(h:RunAt w r vs ths fv ls):RunL w r vs ths fv:=
 ⟨h.vars.agg tValue (fun _=>rfl),h.things.agg tThing (fun _=>rfl),fun k hk=>⟨(h.fields k hk).1,(h.fields k hk).2.agg tValue (fun _=>rfl)⟩,h.n1,h.n2⟩
def headDiff (a b:Rn) (va vb:Nat→Vl):Bool:=a.at' != b.at' || a.taken != b.taken || a.ending != b.ending || !sameVals a.vars.n b.vars.n va vb || (a.things.n:Int) != (b.things.n:Int) || (a.lines.n:Int) != (b.lines.n:Int)
def thingDiff (ta tb:Nat→Th) (fa fb:Nat→Nat→Vl) (k:Nat):Bool:=(ta k).site != (tb k).site || !sameVals (ta k).fs.n (tb k).fs.n (fa k) (fb k)
def lineDiff (la lb:Nat→ByteArray) (k:Nat):Bool:=!((la k).toList==(lb k).toList)
def sameRun (a b:Rn) (va vb:Nat→Vl) (ta tb:Nat→Th) (fa fb:Nat→Nat→Vl) (la lb:Nat→ByteArray):Bool:=
 if headDiff a b va vb then false else if anyN (thingDiff ta tb fa fb) a.things.n then false else !anyN (lineDiff la lb) a.lines.n
end Go.Proofs.YteoilpcbekijlaaGreatDoor
