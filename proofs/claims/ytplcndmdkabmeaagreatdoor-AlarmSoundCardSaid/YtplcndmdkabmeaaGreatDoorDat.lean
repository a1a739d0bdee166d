/-  -/
import Derived.Test.YtplcndmdkabmeaaGreatDoorVal
import Derived.Test.YtplcndmdkabmeaaGreatDoorLib
import Derived.Test.YtplcndmdkabmeaaGreatDoorCod
set_option linter.unusedSimpArgs false
set_option linter.unusedVariables false
set_option maxRecDepth 100000
set_option maxHeartbeats 8000000
namespace Go.Proofs.YtplcndmdkabmeaaGreatDoor
open Go.RowKit
structure RunL (w:World) (r:Rn) (vs:Nat→Vl) (ths:Nat→Th) (fv:Nat→Nat→Vl):Prop where
 vars:ListAt Tryz.prog 77 2 w r.vars.p r.vars.n (fun k=>(vs k).v)
 things:ListAt Tryz.prog 79 2 w r.things.p r.things.n (fun k=>(ths k).v)
 fields:∀ k,k<r.things.n→(ths k).fs.n≤9223372036854775807∧ListAt Tryz.prog 77 2 w (ths k).fs.p (ths k).fs.n (fun j=>(fv k j).v)
 n1:r.vars.n≤9223372036854775807
 n2:r.things.n≤9223372036854775807
theorem RunL.grow {w w' : World}{r:Rn}{vs:Nat→Vl}{ths:Nat→Th}{fv:Nat→Nat→Vl}(h:RunL w r vs ths fv) (hb:Below w.heap.size w w'):RunL w' r vs ths fv:=
 ⟨h.vars.grow hb,h.things.grow hb,fun k hk=>⟨(h.fields k hk).1,(h.fields k hk).2.grow hb⟩,h.n1,h.n2⟩
def placeBad (p:Pg) (r:Rn):Bool:=decide (r.at' < 0) || decide ((p.n:Int)<r.at') || decide (r.taken<0) || decide (r.ending<0) || decide (5<r.ending)
def siteBad (p:Pg) (is:Nat→Ins) (r:Rn) (ths:Nat→Th):Bool:=anyN (fun k=>!isSite p is (ths k).site) r.things.n
def lenBad (p:Pg) (r:Rn) (ths:Nat→Th):Bool:=anyN (fun k=>((ths k).fs.n:Int) != p.fields) r.things.n
def varBad (r:Rn) (vs:Nat→Vl):Bool:=anyN (fun k=>!isValue (vs k) r.things.n) r.vars.n
def fieldBad (r:Rn) (ths:Nat→Th) (fv:Nat→Nat→Vl):Bool:=anyN (fun k=>anyN (fun j=>!isValue (fv k j) r.things.n) (ths k).fs.n) r.things.n
def rightRun (p:Pg) (is:Nat→Ins) (r:Rn) (vs:Nat→Vl) (ths:Nat→Th) (fv:Nat→Nat→Vl):Int:=
 if placeBad p r then 3 else if (r.vars.n:Int) != p.vars then 1 else if 100<r.things.n then 2 else if siteBad p is r ths then 5 else if lenBad p r ths then 1 else if varBad r vs then 4 else if fieldBad r ths fv then 4 else 0
theorem right_any (p:Pg) (is:Nat→Ins) (r:Rn) (vs:Nat→Vl) (ths:Nat→Th) (fv:Nat→Nat→Vl) (w:World) (hn:p.n≤9223372036854775807) (hc:CodeAt w p is) (hr:RunL w r vs ths fv):
  Calls Tryz.prog 84 #[p.v,r.v] w fun e w'=>e=.returned (.int .i64 (rightRun p is r vs ths fv))∧Below w.heap.size w w':=by
 have n1:=hr.n1
 have n2:=hr.n2
 have HC:=Lib.hid hc
 have HR:=Lib.hid hr
 have HF:=Lib.hid (show rightRun p is r vs ths fv=if placeBad p r then 3 else if (r.vars.n:Int) != p.vars then 1 else if 100<r.things.n then 2 else if siteBad p is r ths then 5 else if lenBad p r ths then 1 else if varBad r vs then 4 else if fieldBad r ths fv then 4 else 0 from rfl)
 clear hc hr
 have hL:=Loc.start w
 go_enter Tryz.func84,Tryz.ntmps84
 go_step
 go_step
 go_step
 ((with_reducible refine lbx hL ?_);clear hL;intro b2 w1 hL)
 ((with_reducible refine lbx hL ?_);clear hL;intro b3 w1 hL)
 go_upto_region 1 with(first|(with_reducible first|refine lld hL ?_|((first|refine lbx hL ?_|refine lal hL ?_|refine lbs hL ?_);clear hL;intro bl w1 hL)|(refine lst' hL ?_;clear hL;intro w1 hL)))
 refine seq_begin [7,8,9,10,11,12,13,14,15,16,17,18,19,20,21,22,23,24,25,26,27,28,29,30,31,32,6] ?_
 refine dv0 ?_
 refine dv1 0 ?_
 refine dv1 1 ?_
 refine dv1 2 ?_
 refine dg0 3 ?_
 refine dg1 3 4 ?_
 refine dg0 3 ?_
 refine dg1 3 6 ?_
 refine dg1 3 7 ?_
 refine dg2 3 5 8 ?_
 refine dpo 3 9 ?_
 refine dv1 10 ?_
 refine dg0 11 ?_
 refine dg1 11 12 ?_
 refine dg1 11 13 ?_
 refine dpo 11 14 ?_
 refine dv1 15 ?_
 refine dg0 16 ?_
 refine dg1 16 17 ?_
 refine dg1 16 18 ?_
 refine dpo 16 19 ?_
 refine dv1 20 ?_
 refine dg0 21 ?_
 refine dg1 21 22 ?_
 refine dg1 21 23 ?_
 refine dpo 21 24 ?_
 refine dv1 25 ?_
 refine dns hL ?_
 clear hL;intro w2 hL;simp only[fillX,sTa,sTb]
 cases h1:placeBad p r with
 | true=>
  have h0:=h1
  unfold placeBad at h0
  simp only[h0]
  clear h0
  have H:=Lib.hid h1
  clear h1
  go_wp2_with (first|(with_reducible first|refine lld hL ?_|((first|refine lbx hL ?_|refine lal hL ?_|refine lbs hL ?_);clear hL;intro bl w1 hL)|(refine lst' hL ?_;clear hL;intro w1 hL)))
  (try simp only[Exit.inBlock,Exit.then]);refine rt1 ?_
  exact⟨by rw[HF.out,if_pos H.out];rfl,hL.below⟩
 | false=>
 have h0:=h1
 unfold placeBad at h0
 simp only[h0]
 clear h0
 have Hh1:=Lib.hid h1
 clear h1
 by_cases hv:(r.vars.n:Int)=p.vars
 case neg=>
  have hv2:((r.vars.n:Int) != p.vars)=true:=by simp[hv]
  have H:=Lib.hid hv2
  clear hv
  go_wp2_with (first|(with_reducible first|refine lld hL ?_|((first|refine lbx hL ?_|refine lal hL ?_|refine lbs hL ?_);clear hL;intro bl w1 hL)|(refine lst' hL ?_;clear hL;intro w1 hL)))
  (try simp only[Exit.inBlock,Exit.then]);refine rt1 ?_
  exact⟨by rw[HF.out,if_neg (by rw[Hh1.out];decide),if_pos H.out];rfl,hL.below⟩
 have hv2:((r.vars.n:Int) != p.vars)=false:=by simp[hv]
 have Hhv:=Lib.hid hv2
 clear hv
 by_cases ht:100<r.things.n
 ·go_wp2_with (first|(with_reducible first|refine lld hL ?_|((first|refine lbx hL ?_|refine lal hL ?_|refine lbs hL ?_);clear hL;intro bl w1 hL)|(refine lst' hL ?_;clear hL;intro w1 hL)))
  (try simp only[Exit.inBlock,Exit.then]);refine rt1 ?_
  exact⟨by rw[HF.out,if_neg (by rw[Hh1.out];decide),if_neg (by rw[Hhv.out];decide),if_pos ht];rfl,hL.below⟩
 go_upto_region 7 with(first|(with_reducible first|refine lld hL ?_|((first|refine lbx hL ?_|refine lal hL ?_|refine lbs hL ?_);clear hL;intro bl w1 hL)|(refine lst' hL ?_;clear hL;intro w1 hL)))
 have Ht:=Lib.hid ht
 clear ht hv2
 have hcl:=containsThings r.things.p r.things.n r.things.cap (fun k=>(ths k).v) (fun k=>!isSite p is (ths k).site) 126 (.pointer (some ⟨b2,0,none⟩)) _ n2 (HR.out.things.grow hL.below) ⟨enter1,fun k _ w' hb=>right1_any p is (ths k) b2 w' ((hL.readsAt (b:=b2) (Tv:=27) (off:=0) (v:=p.v) cIn (Reads.agg tProg rfl rfl)).grow hb) ((HC.out.grow hL.below).grow hb)⟩
 rw[show anyN (fun k=>!isSite p is (ths k).site) r.things.n=siteBad p is r ths from rfl]at hcl
 cases h4:siteBad p is r ths with
 | true=>
  rw[h4]at hcl
  have HCL:=Lib.hid hcl
  have H:=Lib.hid h4
  clear hcl h4
  go_wp2_with (first|(with_reducible first|refine lld hL ?_|((first|refine lbx hL ?_|refine lal hL ?_|refine lbs hL ?_);clear hL;intro bl w1 hL)|(refine lst' hL ?_;clear hL;intro w1 hL))|(go_at_call 125;((with_reducible refine(HCL.out).mono ?_);rintro e w1 ⟨rfl,hb⟩;replace hL:=hL.grow hb;clear hb;dsimp only)))
  (try simp only[Exit.inBlock,Exit.then]);refine rt1 ?_
  exact⟨by rw[HF.out,if_neg (by rw[Hh1.out];decide),if_neg (by rw[Hhv.out];decide),if_neg Ht.out,if_pos H.out];rfl,hL.below⟩
 | false=>
 rw[h4]at hcl
 have HCL:=Lib.hid hcl
 have Hh4:=Lib.hid h4
 clear hcl h4
 go_upto_region 9 with(first|(with_reducible first|refine lld hL ?_|((first|refine lbx hL ?_|refine lal hL ?_|refine lbs hL ?_);clear hL;intro bl w1 hL)|(refine lst' hL ?_;clear hL;intro w1 hL))|(go_at_call 125;((with_reducible refine(HCL.out).mono ?_);rintro e w1 ⟨rfl,hb⟩;replace hL:=hL.grow hb;clear hb;dsimp only)))
 clear HCL
 have hcl:=containsThings r.things.p r.things.n r.things.cap (fun k=>(ths k).v) (fun k=>((ths k).fs.n:Int) != p.fields) 128 (.pointer (some ⟨b2,0,none⟩)) _ n2 (HR.out.things.grow hL.below) ⟨enter2,fun k _ w' hb=>right2_any p.fields (ths k) b2 w' ((hL.readsAt (b:=b2) (Tv:=3) (off:=1) (v:=.int .i64 p.fields) cIn (Reads.cell tInt rfl)).grow hb)⟩
 rw[show anyN (fun k=>((ths k).fs.n:Int) != p.fields) r.things.n=lenBad p r ths from rfl]at hcl
 cases h5:lenBad p r ths with
 | true=>
  rw[h5]at hcl
  have HCL:=Lib.hid hcl
  have H:=Lib.hid h5
  clear hcl h5
  go_wp2_with (first|(with_reducible first|refine lld hL ?_|((first|refine lbx hL ?_|refine lal hL ?_|refine lbs hL ?_);clear hL;intro bl w1 hL)|(refine lst' hL ?_;clear hL;intro w1 hL))|(go_at_call 125;((with_reducible refine(HCL.out).mono ?_);rintro e w1 ⟨rfl,hb⟩;replace hL:=hL.grow hb;clear hb;dsimp only)))
  (try simp only[Exit.inBlock,Exit.then]);refine rt1 ?_
  exact⟨by rw[HF.out,if_neg (by rw[Hh1.out];decide),if_neg (by rw[Hhv.out];decide),if_neg Ht.out,if_neg (by rw[Hh4.out];decide),if_pos H.out];rfl,hL.below⟩
 | false=>
 rw[h5]at hcl
 have HCL:=Lib.hid hcl
 have Hh5:=Lib.hid h5
 clear hcl h5
 go_upto_region 11 with(first|(with_reducible first|refine lld hL ?_|((first|refine lbx hL ?_|refine lal hL ?_|refine lbs hL ?_);clear hL;intro bl w1 hL)|(refine lst' hL ?_;clear hL;intro w1 hL))|(go_at_call 125;((with_reducible refine(HCL.out).mono ?_);rintro e w1 ⟨rfl,hb⟩;replace hL:=hL.grow hb;clear hb;dsimp only)))
 clear HCL
 go_upto_region 12 with(first|(with_reducible first|refine lld hL ?_|((first|refine lbx hL ?_|refine lal hL ?_|refine lbs hL ?_);clear hL;intro bl w1 hL)|(refine lst' hL ?_;clear hL;intro w1 hL)))
 obtain⟨b5,hb5⟩:∃ x,x=bl:=⟨_,rfl⟩
 subst hb5
 have hcv:=containsValues r.vars.p r.vars.n r.vars.cap (fun k=>(vs k).v) (fun k=>!isValue (vs k) r.things.n) 129 (.pointer (some ⟨b3,0,none⟩)) _ n1 (HR.out.vars.grow hL.below) (fn3 r.things b3 _ n2 (hL.readsAt (b:=b3) (Tv:=43) (off:=2) (v:=r.things.v) cIn (Reads.cell tThings rfl)) r.vars.n vs)
 rw[show anyN (fun k=>!isValue (vs k) r.things.n) r.vars.n=varBad r vs from rfl]at hcv
 have hct:=fun w' (hb:Below _ _ w')=>containsThings r.things.p r.things.n r.things.cap (fun k=>(ths k).v) (fun k=>anyN (fun j=>!isValue (fv k j) r.things.n) (ths k).fs.n) 132 (.pointer (some ⟨b5,0,none⟩)) w' n2 ((HR.out.things.grow hL.below).grow hb) ⟨enter4,fun k hk w2 hb2=>right4_any r.things (ths k) (fv k) b3 b5 w2 n2 (HR.out.fields k hk).1 (((hL.readsAt (b:=b3) (Tv:=43) (off:=2) (v:=r.things.v) cIn (Reads.cell tThings rfl)).grow hb).grow hb2) (((hL.readsAt (b:=b5) (Tv:=138) (off:=0) (v:=.func (.func 129) #[] #[.pointer (some ⟨b3,0,none⟩)]) cIn (Reads.cell tFun rfl)).grow hb).grow hb2) ((((HR.out.fields k hk).2.grow hL.below).grow hb).grow hb2)⟩
 rw[show anyN (fun k=>anyN (fun j=>!isValue (fv k j) r.things.n) (ths k).fs.n) r.things.n=fieldBad r ths fv from rfl]at hct
 have HCT0:=Lib.hid hct
 clear hct
 cases hvb:varBad r vs with
 | true=>
  rw[hvb]at hcv
  have HCV:=Lib.hid hcv
  have H:=Lib.hid hvb
  clear hcv hvb
  go_wp2_with (first|(with_reducible first|refine lld hL ?_|((first|refine lbx hL ?_|refine lal hL ?_|refine lbs hL ?_);clear hL;intro bl w1 hL)|(refine lst' hL ?_;clear hL;intro w1 hL))|(go_at_call 131;((with_reducible refine(HCV.out).mono ?_);rintro e w4 ⟨rfl,hbv⟩;replace hL:=hL.grow hbv;dsimp only))|(go_at_call 125;((with_reducible refine(HCT.out _ hbv).mono ?_);rintro e w1 ⟨rfl,hb⟩;replace hL:=hL.grow hb;clear hb;dsimp only)))
  (try simp only[Exit.inBlock,Exit.then]);refine rt1 ?_
  exact⟨by rw[HF.out,if_neg (by rw[Hh1.out];decide),if_neg (by rw[Hhv.out];decide),if_neg Ht.out,if_neg (by rw[Hh4.out];decide),if_neg (by rw[Hh5.out];decide),if_pos H.out];rfl,hL.below⟩
 | false=>
 rw[hvb]at hcv
 have HCV:=Lib.hid hcv
 have Hhvb:=Lib.hid hvb
 clear hcv hvb
 have hct:=HCT0.out
 cases hfb:fieldBad r ths fv with
 | true=>
  rw[hfb]at hct
  have HCT:=Lib.hid hct
  have H:=Lib.hid hfb
  clear hct hfb
  go_wp2_with (first|(with_reducible first|refine lld hL ?_|((first|refine lbx hL ?_|refine lal hL ?_|refine lbs hL ?_);clear hL;intro bl w1 hL)|(refine lst' hL ?_;clear hL;intro w1 hL))|(go_at_call 131;((with_reducible refine(HCV.out).mono ?_);rintro e w4 ⟨rfl,hbv⟩;replace hL:=hL.grow hbv;dsimp only))|(go_at_call 125;((with_reducible refine(HCT.out _ hbv).mono ?_);rintro e w1 ⟨rfl,hb⟩;replace hL:=hL.grow hb;clear hb;dsimp only)))
  (try simp only[Exit.inBlock,Exit.then]);refine rt1 ?_
  exact⟨by rw[HF.out,if_neg (by rw[Hh1.out];decide),if_neg (by rw[Hhv.out];decide),if_neg Ht.out,if_neg (by rw[Hh4.out];decide),if_neg (by rw[Hh5.out];decide),if_neg (by rw[Hhvb.out];decide),if_pos H.out];rfl,hL.below⟩
 | false=>
  rw[hfb]at hct
  have HCT:=Lib.hid hct
  have H:=Lib.hid hfb
  clear hct hfb
  go_wp2_with (first|(with_reducible first|refine lld hL ?_|((first|refine lbx hL ?_|refine lal hL ?_|refine lbs hL ?_);clear hL;intro bl w1 hL)|(refine lst' hL ?_;clear hL;intro w1 hL))|(go_at_call 131;((with_reducible refine(HCV.out).mono ?_);rintro e w4 ⟨rfl,hbv⟩;replace hL:=hL.grow hbv;dsimp only))|(go_at_call 125;((with_reducible refine(HCT.out _ hbv).mono ?_);rintro e w1 ⟨rfl,hb⟩;replace hL:=hL.grow hb;clear hb;dsimp only)))
  (try simp only[Exit.inBlock,Exit.then]);refine rt1 ?_
  exact⟨by rw[HF.out,if_neg (by rw[Hh1.out];decide),if_neg (by rw[Hhv.out];decide),if_neg Ht.out,if_neg (by rw[Hh4.out];decide),if_neg (by rw[Hh5.out];decide),if_neg (by rw[Hhvb.out];decide),if_neg (by rw[H.out];decide)];rfl,hL.below⟩
def checkRun (p:Pg) (is:Nat→Ins) (r:Rn) (vs:Nat→Vl) (ths:Nat→Th) (fv:Nat→Nat→Vl):Int:=if checkProg p is=0 then rightRun p is r vs ths fv else checkProg p is
theorem runCheck_any (p:Pg) (is:Nat→Ins) (r:Rn) (vs:Nat→Vl) (ths:Nat→Th) (fv:Nat→Nat→Vl) (w:World) (hn:p.n≤9223372036854775807) (hc:CodeAt w p is) (hr:RunL w r vs ths fv):
  Calls Tryz.prog 42 #[p.v,r.v] w fun e w'=>e=.returned (.int .i64 (checkRun p is r vs ths fv))∧Below w.heap.size w w':=by
 have HK:=Lib.hid (fun w' (hb:Below w.heap.size w w')=>codeCheck_any p is w' (hc.grow hb) hn)
 have HR:=Lib.hid (fun w' (hb:Below w.heap.size w w')=>right_any p is r vs ths fv w' hn (hc.grow hb) (hr.grow hb))
 clear hc hr
 have hL:=Loc.start w
 by_cases h0:checkProg p is=0
 ·have HF:=Lib.hid (show checkRun p is r vs ths fv=rightRun p is r vs ths fv by simp[checkRun,h0])
  have hk:=HK.out
  rw[h0]at hk
  have HK2:=Lib.hid hk
  clear hk h0
  go_enter Tryz.func42,Tryz.ntmps42
  go_wp2_with (first|(with_reducible first|refine lld hL ?_|((first|refine lbx hL ?_|refine lal hL ?_|refine lbs hL ?_);clear hL;intro bl w1 hL)|(refine lst' hL ?_;clear hL;intro w1 hL))|(go_at_call 43;refine(HK2.out _ hL.below).mono ?_;rintro e w1 ⟨rfl,hb⟩;replace hL:=hL.grow hb;clear hb;dsimp only)|(go_at_call 84;refine(HR.out _ hL.below).mono ?_;rintro e w1 ⟨rfl,hb⟩;replace hL:=hL.grow hb;clear hb;dsimp only))
  (try simp only[Exit.inBlock,Exit.then]);refine rt1 ?_
  exact⟨by rw[HF.out];rfl,hL.below⟩
 ·have HF:=Lib.hid (show checkRun p is r vs ths fv=checkProg p is by simp[checkRun,h0])
  have hne:(checkProg p is != 0)=true:=by simp[h0]
  have hk:=HK.out
  generalize checkProg p is=c at hk hne HF
  have HK2:=Lib.hid hk
  clear hk h0
  go_enter Tryz.func42,Tryz.ntmps42
  go_wp2_with (first|(with_reducible first|refine lld hL ?_|((first|refine lbx hL ?_|refine lal hL ?_|refine lbs hL ?_);clear hL;intro bl w1 hL)|(refine lst' hL ?_;clear hL;intro w1 hL))|(go_at_call 43;refine(HK2.out _ hL.below).mono ?_;rintro e w1 ⟨rfl,hb⟩;replace hL:=hL.grow hb;clear hb;dsimp only))
  (try simp only[Exit.inBlock,Exit.then]);refine rt1 ?_
  exact⟨by rw[HF.out];rfl,hL.below⟩
def diffAt (x y:Nat→Vl) (k:Nat):Bool:=!((x k).kind==(y k).kind&&(x k).n==(y k).n)
def sameVals (n m:Nat) (x y:Nat→Vl):Bool:=n==m && !(anyN (diffAt x y) n)
theorem ListC.cell {P:Program}{T:TypeId}{w:World}{es:Nat}{p:Option Addr}{n:Nat}{cells:Nat→List Value}(hT:CellT P T) (h:ListC w es p n cells):
  ∃ b o:Nat,(0<n→p=some ⟨b,o,none⟩)∧∀ k,k<n→∀ j v,(cells k)[j]? = some v→ReadsAt P T w b (o+k*es+j) v:=by
 obtain⟨b,o,h1,h2⟩:=h.ex
 exact⟨b,o,h1,fun k hk j v hj=>ReadsAt.cell hT (h2 k hk).1 ((h2 k hk).2 j v hj)⟩
structure RunAt (w:World) (r:Rn) (vs:Nat→Vl) (ths:Nat→Th) (fv:Nat→Nat→Vl) (ls:Nat→ByteArray):Prop where
 vars:ListC w 2 r.vars.p r.vars.n (fun k=>(vs k).cells)
 things:ListC w 2 r.things.p r.things.n (fun k=>[.int .i64 (ths k).site,.slice (ths k).fs.p (ths k).fs.n (ths k).fs.cap])
 fields:∀ k,k<r.things.n→(ths k).fs.n≤9223372036854775807∧ListC w 2 (ths k).fs.p (ths k).fs.n (fun j=>(fv k j).cells)
 lines:ListC w 1 r.lines.p r.lines.n (fun k=>[.string (ls k)])
 n1:r.vars.n≤9223372036854775807
 n2:r.things.n≤9223372036854775807
 n3:r.lines.n≤9223372036854775807
theorem RunAt.grow {w w' : World}{r:Rn}{vs:Nat→Vl}{ths:Nat→Th}{fv:Nat→Nat→Vl}{ls:Nat→ByteArray}(h:RunAt w r vs ths fv ls) (hb:Below w.heap.size w w'):RunAt w' r vs ths fv ls:=
 ⟨h.vars.grow hb,h.things.grow hb,fun k hk=>⟨(h.fields k hk).1,(h.fields k hk).2.grow hb⟩,h.lines.grow hb,h.n1,h.n2,h.n3⟩
theorem RunAt.l {w:World}{r:Rn}{vs:Nat→Vl}{ths:Nat→Th}{fv:Nat→Nat→Vl}{ls:Nat→ByteArray}(h:RunAt w r vs ths fv ls):RunL w r vs ths fv:=
 ⟨h.vars.agg tValue (fun _=>rfl),h.things.agg tThing (fun _=>rfl),fun k hk=>⟨(h.fields k hk).1,(h.fields k hk).2.agg tValue (fun _=>rfl)⟩,h.n1,h.n2⟩
def headDiff (a b:Rn) (va vb:Nat→Vl):Bool:=a.at' != b.at' || a.taken != b.taken || a.ending != b.ending || !sameVals a.vars.n b.vars.n va vb || (a.things.n:Int) != (b.things.n:Int) || (a.lines.n:Int) != (b.lines.n:Int)
def thingDiff (ta tb:Nat→Th) (fa fb:Nat→Nat→Vl) (k:Nat):Bool:=(ta k).site != (tb k).site || !sameVals (ta k).fs.n (tb k).fs.n (fa k) (fb k)
def lineDiff (la lb:Nat→ByteArray) (k:Nat):Bool:=!((la k).toList==(lb k).toList)
def sameRun (a b:Rn) (va vb:Nat→Vl) (ta tb:Nat→Th) (fa fb:Nat→Nat→Vl) (la lb:Nat→ByteArray):Bool:=
 if headDiff a b va vb then false else if anyN (thingDiff ta tb fa fb) a.things.n then false else !anyN (lineDiff la lb) a.lines.n
end Go.Proofs.YtplcndmdkabmeaaGreatDoor
set_option linter.unusedSimpArgs false
set_option linter.unusedVariables false
set_option maxRecDepth 100000
set_option maxHeartbeats 1600000
namespace Go.Proofs.YtplcndmdkabmeaaGreatDoor
open Go.RowKit
structure Rs where
 at' : Int
 vars:List Vl
 things:List (Int × List Vl)
 taken:Int
 lines:List ByteArray
 ending:Int
def dV:Vl:=⟨0,0⟩
def dT:Int × List Vl:=(0,[])
abbrev Rs.val (s:Rs) (k:Nat):Vl:=s.vars.getD k dV
abbrev Rs.thing (s:Rs) (k:Nat):Int × List Vl:=s.things.getD k dT
abbrev Rs.field (s:Rs) (k j:Nat):Vl:=(s.things.getD k dT).2.getD j dV
abbrev Rs.line (s:Rs) (k:Nat):ByteArray:=s.lines.getD k ByteArray.empty
abbrev flatV (l:List Vl):List Value:=l.flatMap Vl.cells
abbrev Th.cells (t:Th):List Value:=[.int .i64 t.site,.slice t.fs.p t.fs.n t.fs.cap]
abbrev flatT (l:List Th):List Value:=l.flatMap Th.cells
abbrev lineCells (s:ByteArray):List Value:=[.string s]
abbrev flatL (l:List ByteArray):List Value:=l.flatMap lineCells
theorem lenV (x:Vl):(Vl.cells x).length=2:=rfl
theorem lenT (x:Th):(Th.cells x).length=2:=rfl
theorem lenL (x:ByteArray):(lineCells x).length=1:=rfl
structure RunIs (w:World) (r:Rn) (s:Rs):Prop where
 ex:∃ ths:Nat→Th,RunAt w r s.val ths s.field s.line∧∀ k,k<s.things.length→(ths k).site=(s.thing k).1∧(ths k).fs.n=(s.thing k).2.length
 a:r.at'=s.at'
 t:r.taken=s.taken
 e:r.ending=s.ending
 nv:r.vars.n=s.vars.length
 nt:r.things.n=s.things.length
 nl:r.lines.n=s.lines.length
theorem RunIs.grow {w w' : World}{r:Rn}{s:Rs}(h:RunIs w r s) (hb:Below w.heap.size w w'):RunIs w' r s:=by
 obtain⟨⟨ths,h1,h2⟩,h3,h4,h5,h6,h7,h8⟩:=h
 exact⟨⟨ths,h1.grow hb,h2⟩,h3,h4,h5,h6,h7,h8⟩
theorem RunIs.same {w:World}{a b:Rn}{s:Rs}(ha:RunIs w a s) (hb:RunIs w b s):∃ va vb ta tb fa fb la lb,RunAt w a va ta fa la∧RunAt w b vb tb fb lb∧sameRun a b va vb ta tb fa fb la lb=true:=by
 obtain⟨⟨ta,h1,h2⟩,h3,h4,h5,h6,h7,h8⟩:=ha
 obtain⟨⟨tb,g1,g2⟩,g3,g4,g5,g6,g7,g8⟩:=hb
 refine⟨_,_,ta,tb,_,_,_,_,h1,g1,?_⟩
 have e1:headDiff a b s.val s.val=false:=by
  simp[headDiff,sameVals,h3,h4,h5,h6,h7,h8,g3,g4,g5,g6,g7,g8,anyN,diffAt]
 have e2:anyN (thingDiff ta tb s.field s.field) a.things.n=false:=anyN_no fun k hk=>by
  have:=h2 k (by omega)
  have:=g2 k (by omega)
  simp[thingDiff,sameVals,anyN,diffAt, *]
 have e3:anyN (lineDiff s.line s.line) a.lines.n=false:=anyN_no fun k _=>by simp[lineDiff]
 simp[sameRun,e1,e2,e3]
def rsOf (r:Rn) (vs:Nat→Vl) (ths:Nat→Th) (fv:Nat→Nat→Vl) (ls:Nat→ByteArray):Rs:=
 ⟨r.at',(List.range r.vars.n).map vs,(List.range r.things.n).map (fun k=>((ths k).site,(List.range (ths k).fs.n).map (fv k))),r.taken,(List.range r.lines.n).map ls,r.ending⟩
theorem RunAt.is {w:World}{r:Rn}{vs:Nat→Vl}{ths:Nat→Th}{fv:Nat→Nat→Vl}{ls:Nat→ByteArray}(h:RunAt w r vs ths fv ls):RunIs w r (rsOf r vs ths fv ls):=by
 refine⟨⟨ths,⟨?_,h.things,fun k hk=>⟨(h.fields k hk).1,?_⟩,?_,h.n1,h.n2,h.n3⟩,fun k hk=>?_⟩,rfl,rfl,rfl,by simp[rsOf],by simp[rsOf],by simp[rsOf]⟩
 ·refine h.vars.congr fun k hk=>?_
  show Vl.cells (((List.range r.vars.n).map vs).getD k dV)=_
  rw[getD_map_range _ _ _ _ hk]
 ·refine(h.fields k hk).2.congr fun j hj=>?_
  show ((((List.range r.things.n).map _).getD k dT).2.getD j dV).cells=_
  rw[getD_map_range _ _ _ _ hk,getD_map_range _ _ _ _ hj]
 ·refine h.lines.congr fun k hk=>?_
  show [Value.string (((List.range r.lines.n).map ls).getD k ByteArray.empty)]=_
  rw[getD_map_range _ _ _ _ hk]
 ·have hk' : k<r.things.n:=by simpa [rsOf] using hk
  show (ths k).site=(((List.range r.things.n).map _).getD k dT).1∧(ths k).fs.n=(((List.range r.things.n).map _).getD k dT).2.length
  rw[getD_map_range _ _ _ _ hk']
  simp
inductive FRows:List Th→List (Int × List Vl)→List LBlk→Prop where
 | nil:FRows [] [] []
 | cons {t:Th} {l:List Vl} {R:List LBlk} {ts:List Th} {ths:List (Int × List Vl)} {Rf:List LBlk} (h:RowS 77 2 t.fs.p t.fs.n t.fs.cap (flatV l) R) (hs:FRows ts ths Rf):FRows (t::ts) ((t.site,l)::ths) (R++Rf)
theorem FRows.snoc {ts:List Th}{ths:List (Int × List Vl)}{Rf:List LBlk}(h:FRows ts ths Rf) {t:Th}{l:List Vl}{R:List LBlk}(hr:RowS 77 2 t.fs.p t.fs.n t.fs.cap (flatV l) R):
  FRows (ts++[t]) (ths++[(t.site,l)]) (Rf++R):=by
 induction h with
 | nil=>have:=FRows.cons hr .nil;simpa using this
 | cons h hs ih=>rw[List.append_assoc];exact .cons h ih
theorem FRows.len {ts:List Th}{ths:List (Int × List Vl)}{Rf:List LBlk}(h:FRows ts ths Rf):ts.length=ths.length:=by
 induction h with
 | nil=>rfl
 | cons h hs ih=>simp[ih]
theorem FRows.get {ts:List Th}{ths:List (Int × List Vl)}{Rf:List LBlk}(h:FRows ts ths Rf) (dt:Th):∀ k,k<ts.length→∃ Ra R Rb,Rf=Ra++(R++Rb)∧(ths.getD k dT).1=(ts.getD k dt).site∧
  RowS 77 2 (ts.getD k dt).fs.p (ts.getD k dt).fs.n (ts.getD k dt).fs.cap (flatV (ths.getD k dT).2) R∧
  ∀ l' R',RowS 77 2 (ts.getD k dt).fs.p (ts.getD k dt).fs.n (ts.getD k dt).fs.cap (flatV l') R'→FRows ts (ths.set k ((ts.getD k dt).site,l')) (Ra++(R'++Rb)):=by
 induction h with
 | nil=>intro k hk;exact absurd hk (by simp)
 | @cons t l R ts ths Rf h hs ih=>
  intro k hk
  cases k with
  | zero=>exact⟨[],R,Rf,rfl,rfl,h,fun l' R' h'=>by simpa using FRows.cons (t:=t) h' hs⟩
  | succ k=>
   obtain⟨Ra,R1,Rb,e1,e2,e3,e4⟩:=ih k (by simpa using hk)
   exact⟨R++Ra,R1,Rb,by rw[e1,List.append_assoc],e2,e3,fun l' R' h'=>by
    rw[List.append_assoc];exact .cons h (e4 l' R' h')⟩
structure RowsR (r:Rn) (s:Rs) (ts:List Th) (Rv Rt Rl Rf:List LBlk):Prop where
 vars:RowS 77 2 r.vars.p r.vars.n r.vars.cap (flatV s.vars) Rv
 things:RowS 79 2 r.things.p r.things.n r.things.cap (flatT ts) Rt
 lines:RowS 9 1 r.lines.p r.lines.n r.lines.cap (flatL s.lines) Rl
 fields:FRows ts s.things Rf
 a:r.at'=s.at'
 t:r.taken=s.taken
 e:r.ending=s.ending
def dTh:Th:=⟨0,⟨none,0,0⟩⟩
theorem RowsR.is {r:Rn}{s:Rs}{ts:List Th}{Rv Rt Rl Rf:List LBlk}{B:Nat}{w:World}(h:RowsR r s ts Rv Rt Rl Rf) (ho:Own B w (Rv++(Rt++(Rl++Rf)))):RunIs w r s:=by
 have ov:Own B w Rv:=ho.sub (List.sublist_append_left _ _)
 have o2:=ho.sub (List.sublist_append_right Rv (Rt++(Rl++Rf)))
 have ot:Own B w Rt:=o2.sub (List.sublist_append_left _ _)
 have o3:=o2.sub (List.sublist_append_right Rt (Rl++Rf))
 have ol:Own B w Rl:=o3.sub (List.sublist_append_left _ _)
 have of:Own B w Rf:=o3.sub (List.sublist_append_right Rl Rf)
 obtain⟨v1,v2⟩:=h.vars.listC lenV dV (by decide) ov
 obtain⟨t1,t2⟩:=h.things.listC lenT dTh (by decide) ot
 obtain⟨l1,l2⟩:=h.lines.listC lenL ByteArray.empty (by decide) ol
 have hlen:=h.fields.len
 have hf:∀ k,k<r.things.n→(s.thing k).1=(ts.getD k dTh).site∧(ts.getD k dTh).fs.n≤9223372036854775807∧(ts.getD k dTh).fs.n=(s.thing k).2.length∧ListC w 2 (ts.getD k dTh).fs.p (ts.getD k dTh).fs.n (fun j=>(s.field k j).cells):=by
  intro k hk
  obtain⟨Ra,R,Rb,e1,e2,e3,_⟩:=h.fields.get dTh k (by omega)
  subst e1
  have oR:Own B w R:=(of.sub (List.sublist_append_right Ra (R++Rb))).sub (List.sublist_append_left _ _)
  obtain⟨f1,f2⟩:=e3.listC lenV dV (by decide) oR
  exact⟨e2,e3.max,f1,f2⟩
 refine⟨⟨fun k=>ts.getD k dTh,⟨v2,t2,fun k hk=>⟨(hf k hk).2.1,(hf k hk).2.2.2⟩,l2,h.vars.max,h.things.max,h.lines.max⟩,fun k hk=>?_⟩,h.a,h.t,h.e,v1,t1.trans hlen,l1⟩
 have:=hf k (by omega)
 exact⟨this.1.symm,this.2.2.1⟩
theorem eqn_V (a:Option Addr) (n cap:Nat) (w:World):(binOp .eql 42 (.slice a n cap) (.slice none 0 0)).run Tryz.prog w=.ok (.bool a.isNone) w:=by cases a<;>kernel_rfl
theorem eqg_V (a:Option Addr) (n cap:Nat) (x y:Operand) (w:World):(eqGuard .eql 42 x y (.slice a n cap) (.slice none 0 0)).run Tryz.prog w=.ok () w:=by kernel_rfl
theorem wp_eqn_V {ops:Array Oper}{Q:Exit→Act→World→Prop}{act:Act}{w:World}{rest:List Oper}{d:Option Tmp}{ty u:TypeId}{pos:String}{after:Array Edge}{x y:Operand}{a:Option Addr}{n cap:Nat}{b:Bool}(hq:a.isNone=b) (ha:act.eval x=.slice a n cap) (hb:act.eval y=.slice none 0 0)
  (h:wpList Tryz.prog ops Q rest (act.put d (.bool b)) w):wpList Tryz.prog ops Q (⟨d,.binOp .eql 42 x y u,ty,pos,after,none⟩::rest) act w:=
 wp_bin (w':=w) (by rw[ha,hb];exact eqg_V a n cap x y w) (by rw[ha,hb];rw[← hq];exact eqn_V a n cap w) h
theorem cloneValues (p:Option Addr) (n cap:Nat) (l:List Vl) (w:World) (hl:ListC w 2 p n (fun k=>Vl.cells (l.getD k dV))) (hn:n=l.length) (hb:n*16≤140737488355328):
  Calls Tryz.prog 108 #[.slice p n cap] w fun e w'=>∃ p' cap' R,e=.returned (.slice p' n cap')∧RowS 77 2 p' n cap' (l.flatMap Vl.cells) R∧Own w.heap.size w' R∧Below w.heap.size w w':=by
 have HN:=Lib.hid (fun w' (hw:Below w.heap.size w w')=>(hl.grow hw).news (l:=l) lenV hn)
 have hlen:(l.flatMap Vl.cells).length=n*2:=by rw[flat_len lenV,hn]
 have hone:∀ u∈l.flatMap Vl.cells,u.oneCell'=true:=by
  intro u hu
  obtain⟨x,_,hx⟩:=List.mem_flatMap.1 hu
  simp only[Vl.cells,List.mem_cons,List.not_mem_nil,or_false]at hx
  rcases hx with rfl|rfl<;>rfl
 have hmx : n ≤ maxLen := by have : maxLen = 9223372036854775807 := rfl
                             omega
 have hd:p=none→l=[]:=by
  rintro rfl
  obtain⟨b,o,h1,_⟩:=hl.ex
  rcases Nat.eq_zero_or_pos n with h0|h0
  ·exact List.length_eq_zero_iff.1 (by omega)
  ·exact absurd (h1 h0) (by simp)
 have HD:=Lib.hid hd
 have HO:=Lib.hid hone
 have HB:=Lib.hid (And.intro hlen (And.intro hmx (And.intro hn hb)))
 clear hl hd hone hlen hmx hn hb
 have hL:=Loc.start w
 cases p with
 | none=>
  have h0:=HD.out rfl
  subst h0
  obtain rfl:n=0:=by have:=HB.out.2.2.1;simpa using this
  clear HB HO HN HD
  go_enter Tryz.func108,Tryz.ntmps108
  go_wp2_with (refine wp_eqn_V (b:=true) rfl rfl rfl ?_)
  go_ret
  exact⟨none,0,[],rfl,RowS.nil,Own.nil,hL.below⟩
 | some ad=>
  go_enter Tryz.func108,Tryz.ntmps108
  go_wp2_with (first|(refine wp_eqn_V (b:=false) rfl rfl rfl ?_)|(refine loc_build0 hL rfl sValues ?_;clear hL;intro p0 w1 hL)|(refine loc_appendS (R:=[]) (K:=[]) (RowS.nil (p:=p0)) (by simpa using hL) rfl rfl rfl sValues bValue (by decide) rfl (HN.out _ hL.below) HB.out.1 HO.out (by rw[Nat.zero_add];exact HB.out.2.1) (by rw[Nat.zero_add];exact HB.out.2.2.2) ?_;clear hL;intro p' cap' R' w' hR hL))
  go_ret
  simp only[Nat.zero_add,List.nil_append]at hR hL ⊢
  exact⟨p',cap',R',rfl,hR,hL.own,hL.below⟩
theorem eqn_L (a:Option Addr) (n cap:Nat) (w:World):(binOp .eql 44 (.slice a n cap) (.slice none 0 0)).run Tryz.prog w=.ok (.bool a.isNone) w:=by cases a<;>kernel_rfl
theorem eqg_L (a:Option Addr) (n cap:Nat) (x y:Operand) (w:World):(eqGuard .eql 44 x y (.slice a n cap) (.slice none 0 0)).run Tryz.prog w=.ok () w:=by kernel_rfl
theorem wp_eqn_L {ops:Array Oper}{Q:Exit→Act→World→Prop}{act:Act}{w:World}{rest:List Oper}{d:Option Tmp}{ty u:TypeId}{pos:String}{after:Array Edge}{x y:Operand}{a:Option Addr}{n cap:Nat}{b:Bool}(hq:a.isNone=b) (ha:act.eval x=.slice a n cap) (hb:act.eval y=.slice none 0 0)
  (h:wpList Tryz.prog ops Q rest (act.put d (.bool b)) w):wpList Tryz.prog ops Q (⟨d,.binOp .eql 44 x y u,ty,pos,after,none⟩::rest) act w:=
 wp_bin (w':=w) (by rw[ha,hb];exact eqg_L a n cap x y w) (by rw[ha,hb];rw[← hq];exact eqn_L a n cap w) h
theorem cloneLines (p:Option Addr) (n cap:Nat) (l:List ByteArray) (w:World) (hl:ListC w 1 p n (fun k=>lineCells (l.getD k ByteArray.empty))) (hn:n=l.length) (hb:n*16≤140737488355328):
  Calls Tryz.prog 109 #[.slice p n cap] w fun e w'=>∃ p' cap' R,e=.returned (.slice p' n cap')∧RowS 9 1 p' n cap' (l.flatMap lineCells) R∧Own w.heap.size w' R∧Below w.heap.size w w':=by
 have HN:=Lib.hid (fun w' (hw:Below w.heap.size w w')=>(hl.grow hw).news (l:=l) lenL hn)
 have hlen:(l.flatMap lineCells).length=n*1:=by rw[flat_len lenL,hn]
 have hone:∀ u∈l.flatMap lineCells,u.oneCell'=true:=by
  intro u hu
  obtain⟨x,_,hx⟩:=List.mem_flatMap.1 hu
  simp only[lineCells,List.mem_cons,List.not_mem_nil,or_false]at hx
  subst hx;rfl
 have hmx : n ≤ maxLen := by have : maxLen = 9223372036854775807 := rfl
                             omega
 have hd:p=none→l=[]:=by
  rintro rfl
  obtain⟨b,o,h1,_⟩:=hl.ex
  rcases Nat.eq_zero_or_pos n with h0|h0
  ·exact List.length_eq_zero_iff.1 (by omega)
  ·exact absurd (h1 h0) (by simp)
 have HD:=Lib.hid hd
 have HO:=Lib.hid hone
 have HB:=Lib.hid (And.intro hlen (And.intro hmx (And.intro hn hb)))
 clear hl hd hone hlen hmx hn hb
 have hL:=Loc.start w
 cases p with
 | none=>
  have h0:=HD.out rfl
  subst h0
  obtain rfl:n=0:=by have:=HB.out.2.2.1;simpa using this
  clear HB HO HN HD
  go_enter Tryz.func109,Tryz.ntmps109
  go_wp2_with (refine wp_eqn_L (b:=true) rfl rfl rfl ?_)
  go_ret
  exact⟨none,0,[],rfl,RowS.nil,Own.nil,hL.below⟩
 | some ad=>
  go_enter Tryz.func109,Tryz.ntmps109
  go_wp2_with (first|(refine wp_eqn_L (b:=false) rfl rfl rfl ?_)|(refine loc_build0 hL rfl sStrs ?_;clear hL;intro p0 w1 hL)|(refine loc_appendS (R:=[]) (K:=[]) (RowS.nil (p:=p0)) (by simpa using hL) rfl rfl rfl sStrs bStr (by decide) rfl (HN.out _ hL.below) HB.out.1 HO.out (by rw[Nat.zero_add];exact HB.out.2.1) (by rw[Nat.zero_add];exact HB.out.2.2.2) ?_;clear hL;intro p' cap' R' w' hR hL))
  go_ret
  simp only[Nat.zero_add,List.nil_append]at hR hL ⊢
  exact⟨p',cap',R',rfl,hR,hL.own,hL.below⟩
def beginS (n:Nat):Rs:=⟨0,List.replicate n dV,[],0,[],0⟩
theorem flat_rep (n:Nat):(List.replicate n [Value.int .i64 0,Value.int .i64 0]).flatten=flatV (List.replicate n dV):=by
 simp[flatV,List.flatMap,dV]
def Gives (w:World) (s:Rs) (e:Ending) (w' : World):Prop:=∃ r ts Rv Rt Rl Rf,e=.returned (Rn.v r)∧RowsR r s ts Rv Rt Rl Rf∧Own w.heap.size w' (Rv++(Rt++(Rl++Rf)))∧Below w.heap.size w w'
theorem begin_any (p:Pg) (n:Nat) (w:World) (hp:p.vars=n) (hn:n≤8):
  Calls Tryz.prog 46 #[p.v] w fun e w'=>Gives w (beginS n) e w':=by
 obtain⟨vars,fields,pc,pn,cap⟩:=p
 dsimp only at hp
 subst hp
 have HN:=Lib.hid hn
 clear hn
 have hL:=Loc.start w
 go_enter Tryz.func46,Tryz.ntmps46
 go_wp2_with (first|(with_reducible first|refine lld hL ?_|((first|refine lbx hL ?_|refine lal hL ?_|refine lbs hL ?_);clear hL;intro bl w1 hL)|(refine lst' hL ?_;clear hL;intro w1 hL))|(refine loc_make hL rfl sValues bValue rfl rfl (by have:=HN.out;omega) (by have:=HN.out;omega) ?_;clear hL;intro bm w1 hL))
 (try simp only[Exit.inBlock,Exit.then]);refine rt1 ?_
 rw[flat_rep]at hL
 have hn:=HN.out
 refine⟨⟨0,⟨some ⟨bm,0,none⟩,n,n⟩,⟨none,0,0⟩,0,⟨none,0,0⟩,0⟩,[],[(bm,77,flatV (List.replicate n dV))],[],[],[],rfl,⟨RowS.full (by rw[flat_len lenV];simp[beginS]) (by show n≤maxLen;have:maxLen=9223372036854775807:=rfl;omega),RowS.nil,RowS.nil,.nil,rfl,rfl,rfl⟩,?_,hL.below⟩
 exact hL.ownOf (by simp)
theorem Loc.ofOwn {w w' : World}{R:List LBlk}(hb:Below w.heap.size w w') (ho:Own w.heap.size w' R):Loc w w' R []:=
 ⟨hb,ho.nodup,fun e he=>(ho.at' e he).1,fun e he=>(ho.at' e he).2,fun S hS=>by cases hS⟩
def zeroR:Rn:=⟨0,⟨none,0,0⟩,⟨none,0,0⟩,0,⟨none,0,0⟩,0⟩
end Go.Proofs.YtplcndmdkabmeaaGreatDoor
