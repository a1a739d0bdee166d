import Derived.Test.YtplcndmdkabmeaaGreatDoorCod
import Derived.Test.YtplcndmdkabmeaaGreatDoorCop
import Derived.Test.YtplcndmdkabmeaaGreatDoorPrg
set_option linter.unusedSimpArgs false
set_option linter.unusedVariables false
set_option maxRecDepth 100000
set_option maxHeartbeats 4000000
namespace Go.Proofs.YtplcndmdkabmeaaGreatDoor
open Go.RowKit
def isSite (p:Pg) (is:Nat→Ins) (at' : Int):Bool:=decide (0≤at')&&(decide (at' < p.n)&&(is at'.toNat).kind==11)
theorem site_cases (p:Pg) (is:Nat→Ins) (a:Int):a<0∨(0≤a∧(p.n:Int)≤a)∨∃ k:Nat,a=k∧k<p.n:=by
 rcases (by omega:a<0∨0≤a) with h|h
 ·exact .inl h
 ·rcases (by omega:a<p.n∨(p.n:Int)≤a) with h2|h2
  ·exact .inr (.inr ⟨a.toNat,by omega,by omega⟩)
  ·exact .inr (.inl ⟨h,h2⟩)
theorem isSite_any (p:Pg) (is:Nat→Ins) (a:Int) (w:World) (hc:CodeAt w p is):
  Calls Tryz.prog 127 #[p.v,.int .i64 a] w fun e w'=>e=.returned (.bool (isSite p is a))∧Below w.heap.size w w':=by
 obtain⟨b,o,hp,hc⟩:=hc.kinds
 have HP:=Lib.hid hp
 have HC:=Lib.hid hc
 clear hp hc
 have hL:=Loc.start w
 rcases site_cases p is a with h|⟨h,h2⟩|⟨k,rfl,hk⟩
 ·go_enter Tryz.func127,Tryz.ntmps127
  go_wp2_with (first|(with_reducible first|refine lld hL ?_|((first|refine lbx hL ?_|refine lal hL ?_|refine lbs hL ?_);clear hL;intro bl w1 hL)|(refine lst' hL ?_;clear hL;intro w1 hL)))
  (try simp only[Exit.inBlock,Exit.then]);refine rt1 ?_
  exact⟨by simp[isSite];omega,hL.below⟩
 ·go_enter Tryz.func127,Tryz.ntmps127
  go_wp2_with (first|(with_reducible first|refine lld hL ?_|((first|refine lbx hL ?_|refine lal hL ?_|refine lbs hL ?_);clear hL;intro bl w1 hL)|(refine lst' hL ?_;clear hL;intro w1 hL)))
  (try simp only[Exit.inBlock,Exit.then]);refine rt1 ?_
  exact⟨by simp[isSite];omega,hL.below⟩
 ·have HPC:=Lib.hid (HP.out (by omega))
  have HR:=Lib.hid (HC.out k hk)
  obtain⟨vars,fields,pc,n,cap⟩:=p
  obtain rfl:=HPC.out
  go_enter Tryz.func127,Tryz.ntmps127
  go_wp2_with (first|(with_reducible first|refine lld hL ?_|((first|refine lbx hL ?_|refine lal hL ?_|refine lbs hL ?_);clear hL;intro bl w1 hL)|(refine lst' hL ?_;clear hL;intro w1 hL))|(refine loc_loadB HR.out hL (by exact cWant) rfl ?_))
  (try simp only[Exit.inBlock,Exit.then]);refine rt1 ?_
  exact⟨by simp[isSite,hk],hL.below⟩
def isValue (v:Vl) (things:Int):Bool:=if v.kind=0 then v.n==0 else if v.kind=1 then betw v.n (-2147483648) 2147483647 else if v.kind=2 then betw v.n 0 1 else if v.kind=3 then betw v.n 0 (things - 1) else false
def countsV (v:Vl):Bool:=v.kind==3 || (v.kind != 0&&v.n != 0)
theorem value_any (v:Vl) (t:Int) (h1:0≤t) (h2:t≤9223372036854775807) (w:World):
  Calls Tryz.prog 130 #[v.v,.int .i64 t] w fun e w'=>e=.returned (.bool (isValue v t))∧Below w.heap.size w w':=by
 obtain⟨k,n⟩:=v
 have hcase:k=0∨(k=1∧-2147483648≤n)∨(k=1∧n < -2147483648)∨(k=2∧n=0)∨(k=2∧(n==0)=false)∨(k=3∧0≤n)∨(k=3∧n<0)∨((k==0)=false∧(k==1)=false∧(k==2)=false∧(k==3)=false):=by simp only[beq_eq_false_iff_ne];omega
 have hL:=Loc.start w
 rcases hcase with rfl|⟨rfl,hn⟩|⟨rfl,hn⟩|⟨rfl,rfl⟩|⟨rfl,hn⟩|⟨rfl,hn⟩|⟨rfl,hn⟩|⟨g0,g1,g2,g3⟩
 all_goals
  go_enter Tryz.func130,Tryz.ntmps130
  go_wp2_with (first|(with_reducible first|refine lld hL ?_|((first|refine lbx hL ?_|refine lal hL ?_|refine lbs hL ?_);clear hL;intro bl w1 hL)|(refine lst' hL ?_;clear hL;intro w1 hL)))
  (try simp only[Exit.inBlock,Exit.then]);refine rt1 ?_
  refine⟨?_,hL.below⟩
  first|(simp_all [isValue,betw];done)|(simp_all [isValue,betw];omega)|(simp_all [isValue,betw];rw[Bool.eq_iff_iff];simp;omega)
theorem counts_cases (k n:Int):k=3∨k=0∨k=1∨k=2∨((k==3)=false∧(k==0)=false∧(k != 0)=true∧(k==1)=false∧(k==2)=false):=by simp only[beq_eq_false_iff_ne,bne_iff_ne];omega
theorem counts_any (v:Vl) (w:World):
  Calls Tryz.prog 91 #[v.v] w fun e w'=>e=.returned (.bool (countsV v))∧Below w.heap.size w w':=by
 obtain⟨k,n⟩:=v
 have hL:=Loc.start w
 rcases counts_cases k n with rfl|rfl|rfl|rfl|⟨g0,g1,g2,g3,g4⟩
 all_goals
  go_enter Tryz.func91,Tryz.ntmps91
  go_wp2_with (first|(with_reducible first|refine lld hL ?_|((first|refine lbx hL ?_|refine lal hL ?_|refine lbs hL ?_);clear hL;intro bl w1 hL)|(refine lst' hL ?_;clear hL;intro w1 hL)))
  (try simp only[Exit.inBlock,Exit.then]);refine rt1 ?_
  refine⟨?_,hL.below⟩
  first|(simp[countsV];done)|(simp[countsV,g0,g2];done)
def truthV (b:Bool):Vl:=⟨2,if b then 1 else 0⟩
theorem truth_any (b:Bool) (w:World):
  Calls Tryz.prog 89 #[.bool b] w fun e w'=>e=.returned (truthV b).v∧Below w.heap.size w w':=by
 have hL:=Loc.start w
 cases b
 all_goals
  go_enter Tryz.func89,Tryz.ntmps89
  go_wp2_with (first|(with_reducible first|refine lld hL ?_|((first|refine lbx hL ?_|refine lal hL ?_|refine lbs hL ?_);clear hL;intro bl w1 hL)|(refine lst' hL ?_;clear hL;intro w1 hL)))
  (try simp only[Exit.inBlock,Exit.then]);refine rt1 ?_
  exact⟨rfl,hL.below⟩
theorem indexThings (p:Option Addr) (n cap:Nat) (f:Nat→Value) (q:Nat→Bool) (K:FuncId) (c:Value) (w:World) (hn:n≤9223372036854775807) (hl:ListAt Tryz.prog 79 2 w p n f) (hf:FnAt Tryz.prog K c w n f q):
  Calls Tryz.prog 178 #[.slice p n cap,.func (.func K) #[] #[c]] w fun e w'=>∃ r:Int,e=.returned (.int .i64 r)∧decide (0≤r)=anyN q n∧Below w.heap.size w w':=by
 obtain⟨b,o,hp,hc⟩:=hl.ex
 have HP:=Lib.hid hp
 have HC:=Lib.hid hc
 have HF:=Lib.hid hf.run
 have he:=hf.enter
 clear hp hc hl hf
 have hL:=Loc.start w
 go_enter Tryz.func178,Tryz.ntmps178
 go_wp2
 go_loopw [8] (fun x wr=>∃ k:Nat,k≤n∧x=.int .i64 k∧(∀ j,j<k→q j=false)∧Loc w wr [] []) (fun x _=>n - (intOf x).toNat)
 case atStart=>exact⟨0,Nat.zero_le _,rfl,fun j hj=>absurd hj (by omega),hL⟩
 case round=>
  obtain⟨k,hk,rfl,hq,hL⟩:=hrel
  have HQ:=Lib.hid hq
  clear hq
  by_cases hlt:k<n
  ·have HPC:=Lib.hid (HP.out (by omega))
   have HR:=Lib.hid (HC.out k hlt)
   have HK:=Lib.hid (HF.out k hlt)
   cases hqk:q k with
   | true=>
    have hk2:=HK.out
    rw[hqk]at hk2
    have HK2:=Lib.hid hk2
    have HA:=Lib.hid (anyN_yes hlt hqk)
    clear hk2 hqk
    go_upto_region 4 with(fail)
    refine seq_begin [11,12,13,14,15,16] ?_
    refine dv0 ?_
    refine dv0 ?_
    refine dv0 ?_
    apply draw_val
    ·intro g w hb y;replace hL:=hL.grow hb;have d1:=yv y 1;have d2:=yv y 2;clear y;simp only[fillD,fLa,fLb,sTa,sTb];simp only[d1,d2]
     (simp only[HPC.out];go_wp2)
     exact cY
    simp only[apN,apC]
    apply draw_val
    ·intro g w hb y;replace hL:=hL.grow hb;have d3:=yv y 3;clear y;simp only[fillD,fLa,fLb,sTa,sTb];simp only[d3]
     refine loc_loadB HR.out hL rfl rfl ?_
     exact cY
    simp only[apN,apC]
    apply draw_val
    ·intro g w hb y;replace hL:=hL.grow hb;have d0:=yv y 0;have d4:=yv y 4;clear y;simp only[fillD,fLa,fLb,sTa,sTb];simp only[d0,d4]
     go_wp2_with ((with_reducible refine(HK2.out _ hL.below).mono ?_);rintro e w3 ⟨rfl,hb3⟩;dsimp only)
     exact⟨rfl,_,rfl,hb3,rfl⟩
    simp only[apN,apC]
    refine dns hL ?_
    clear hL;intro w2 hL;simp only[fillX,sTa,sTb]
    go_wp2
    go_ret
    exact⟨_,rfl,by rw[HA.out];simp,hL.below⟩
   | false=>
    have hk2:=HK.out
    rw[hqk]at hk2
    have HK2:=Lib.hid hk2
    have HA:=Lib.hid hqk
    clear hk2 hqk
    go_upto_region 4 with(fail)
    refine seq_begin [11,12,13,14,15,16] ?_
    refine dv0 ?_
    refine dv0 ?_
    refine dv0 ?_
    apply draw_val
    ·intro g w hb y;replace hL:=hL.grow hb;have d1:=yv y 1;have d2:=yv y 2;clear y;simp only[fillD,fLa,fLb,sTa,sTb];simp only[d1,d2]
     (simp only[HPC.out];go_wp2)
     exact cY
    simp only[apN,apC]
    apply draw_val
    ·intro g w hb y;replace hL:=hL.grow hb;have d3:=yv y 3;clear y;simp only[fillD,fLa,fLb,sTa,sTb];simp only[d3]
     refine loc_loadB HR.out hL rfl rfl ?_
     exact cY
    simp only[apN,apC]
    apply draw_val
    ·intro g w hb y;replace hL:=hL.grow hb;have d0:=yv y 0;have d4:=yv y 4;clear y;simp only[fillD,fLa,fLb,sTa,sTb];simp only[d0,d4]
     go_wp2_with ((with_reducible refine(HK2.out _ hL.below).mono ?_);rintro e w3 ⟨rfl,hb3⟩;dsimp only)
     exact⟨rfl,_,rfl,hb3,rfl⟩
    simp only[apN,apC]
    refine dns hL ?_
    clear hL;intro w2 hL;simp only[fillX,sTa,sTb]
    go_wp2
    go_roundw
    case rel=>
     refine⟨k+1,by omega,by go_num,fun j hj=>?_,hL⟩
     rcases Nat.lt_or_ge j k with h|h
     ·exact HQ.out j h
     ·obtain rfl:j=k:=by omega
      exact HA.out
    case measure=>simp[intOf];omega
  ·obtain rfl:k=n:=by omega
   go_wp2
   go_ret
   exact⟨_,rfl,by rw[anyN_no HQ.out];rfl,hL.below⟩
theorem containsThings (p:Option Addr) (n cap:Nat) (f:Nat→Value) (q:Nat→Bool) (K:FuncId) (c:Value) (w:World) (hn:n≤9223372036854775807) (hl:ListAt Tryz.prog 79 2 w p n f) (hf:FnAt Tryz.prog K c w n f q):
  Calls Tryz.prog 125 #[.slice p n cap,.func (.func K) #[] #[c]] w fun e w'=>e=.returned (.bool (anyN q n))∧Below w.heap.size w w':=by
 have HI:=Lib.hid (indexThings p n cap f q K c w hn hl hf)
 clear hl hf
 go_enter Tryz.func125,Tryz.ntmps125
 go_wp2_with (go_at_call 178;refine HI.out.mono ?_;rintro e w1 ⟨r,rfl,hr,hb⟩;dsimp only)
 go_ret
 exact⟨by rw[← hr];rfl,hb⟩
theorem indexValues (p:Option Addr) (n cap:Nat) (f:Nat→Value) (q:Nat→Bool) (K:FuncId) (c:Value) (w:World) (hn:n≤9223372036854775807) (hl:ListAt Tryz.prog 77 2 w p n f) (hf:FnAt Tryz.prog K c w n f q):
  Calls Tryz.prog 179 #[.slice p n cap,.func (.func K) #[] #[c]] w fun e w'=>∃ r:Int,e=.returned (.int .i64 r)∧decide (0≤r)=anyN q n∧Below w.heap.size w w':=by
 obtain⟨b,o,hp,hc⟩:=hl.ex
 have HP:=Lib.hid hp
 have HC:=Lib.hid hc
 have HF:=Lib.hid hf.run
 have he:=hf.enter
 clear hp hc hl hf
 have hL:=Loc.start w
 go_enter Tryz.func179,Tryz.ntmps179
 go_wp2
 go_loopw [8] (fun x wr=>∃ k:Nat,k≤n∧x=.int .i64 k∧(∀ j,j<k→q j=false)∧Loc w wr [] []) (fun x _=>n - (intOf x).toNat)
 case atStart=>exact⟨0,Nat.zero_le _,rfl,fun j hj=>absurd hj (by omega),hL⟩
 case round=>
  obtain⟨k,hk,rfl,hq,hL⟩:=hrel
  have HQ:=Lib.hid hq
  clear hq
  by_cases hlt:k<n
  ·have HPC:=Lib.hid (HP.out (by omega))
   have HR:=Lib.hid (HC.out k hlt)
   have HK:=Lib.hid (HF.out k hlt)
   cases hqk:q k with
   | true=>
    have hk2:=HK.out
    rw[hqk]at hk2
    have HK2:=Lib.hid hk2
    have HA:=Lib.hid (anyN_yes hlt hqk)
    clear hk2 hqk
    go_upto_region 4 with(fail)
    refine seq_begin [11,12,13,14,15,16] ?_
    refine dv0 ?_
    refine dv0 ?_
    refine dv0 ?_
    apply draw_val
    ·intro g w hb y;replace hL:=hL.grow hb;have d1:=yv y 1;have d2:=yv y 2;clear y;simp only[fillD,fLa,fLb,sTa,sTb];simp only[d1,d2]
     (simp only[HPC.out];go_wp2)
     exact cY
    simp only[apN,apC]
    apply draw_val
    ·intro g w hb y;replace hL:=hL.grow hb;have d3:=yv y 3;clear y;simp only[fillD,fLa,fLb,sTa,sTb];simp only[d3]
     refine loc_loadB HR.out hL rfl rfl ?_
     exact cY
    simp only[apN,apC]
    apply draw_val
    ·intro g w hb y;replace hL:=hL.grow hb;have d0:=yv y 0;have d4:=yv y 4;clear y;simp only[fillD,fLa,fLb,sTa,sTb];simp only[d0,d4]
     go_wp2_with ((with_reducible refine(HK2.out _ hL.below).mono ?_);rintro e w3 ⟨rfl,hb3⟩;dsimp only)
     exact⟨rfl,_,rfl,hb3,rfl⟩
    simp only[apN,apC]
    refine dns hL ?_
    clear hL;intro w2 hL;simp only[fillX,sTa,sTb]
    go_wp2
    go_ret
    exact⟨_,rfl,by rw[HA.out];simp,hL.below⟩
   | false=>
    have hk2:=HK.out
    rw[hqk]at hk2
    have HK2:=Lib.hid hk2
    have HA:=Lib.hid hqk
    clear hk2 hqk
    go_upto_region 4 with(fail)
    refine seq_begin [11,12,13,14,15,16] ?_
    refine dv0 ?_
    refine dv0 ?_
    refine dv0 ?_
    apply draw_val
    ·intro g w hb y;replace hL:=hL.grow hb;have d1:=yv y 1;have d2:=yv y 2;clear y;simp only[fillD,fLa,fLb,sTa,sTb];simp only[d1,d2]
     (simp only[HPC.out];go_wp2)
     exact cY
    simp only[apN,apC]
    apply draw_val
    ·intro g w hb y;replace hL:=hL.grow hb;have d3:=yv y 3;clear y;simp only[fillD,fLa,fLb,sTa,sTb];simp only[d3]
     refine loc_loadB HR.out hL rfl rfl ?_
     exact cY
    simp only[apN,apC]
    apply draw_val
    ·intro g w hb y;replace hL:=hL.grow hb;have d0:=yv y 0;have d4:=yv y 4;clear y;simp only[fillD,fLa,fLb,sTa,sTb];simp only[d0,d4]
     go_wp2_with ((with_reducible refine(HK2.out _ hL.below).mono ?_);rintro e w3 ⟨rfl,hb3⟩;dsimp only)
     exact⟨rfl,_,rfl,hb3,rfl⟩
    simp only[apN,apC]
    refine dns hL ?_
    clear hL;intro w2 hL;simp only[fillX,sTa,sTb]
    go_wp2
    go_roundw
    case rel=>
     refine⟨k+1,by omega,by go_num,fun j hj=>?_,hL⟩
     rcases Nat.lt_or_ge j k with h|h
     ·exact HQ.out j h
     ·obtain rfl:j=k:=by omega
      exact HA.out
    case measure=>simp[intOf];omega
  ·obtain rfl:k=n:=by omega
   go_wp2
   go_ret
   exact⟨_,rfl,by rw[anyN_no HQ.out];rfl,hL.below⟩
theorem containsValues (p:Option Addr) (n cap:Nat) (f:Nat→Value) (q:Nat→Bool) (K:FuncId) (c:Value) (w:World) (hn:n≤9223372036854775807) (hl:ListAt Tryz.prog 77 2 w p n f) (hf:FnAt Tryz.prog K c w n f q):
  Calls Tryz.prog 131 #[.slice p n cap,.func (.func K) #[] #[c]] w fun e w'=>e=.returned (.bool (anyN q n))∧Below w.heap.size w w':=by
 have HI:=Lib.hid (indexValues p n cap f q K c w hn hl hf)
 clear hl hf
 go_enter Tryz.func131,Tryz.ntmps131
 go_wp2_with (go_at_call 179;refine HI.out.mono ?_;rintro e w1 ⟨r,rfl,hr,hb⟩;dsimp only)
 go_ret
 exact⟨by rw[← hr];rfl,hb⟩
structure Th where
 site:Int
 fs:Sl
abbrev Th.v (t:Th):Value:=.agg #[.int .i64 t.site,.slice t.fs.p t.fs.n t.fs.cap]
structure Rn where
 at' : Int
 vars:Sl
 things:Sl
 taken:Int
 lines:Sl
 ending:Int
abbrev Rn.v (r:Rn):Value:=.agg #[.int .i64 r.at',.slice r.vars.p r.vars.n r.vars.cap,.slice r.things.p r.things.n r.things.cap,.int .i64 r.taken,.slice r.lines.p r.lines.n r.lines.cap,.int .i64 r.ending]
theorem Loc.readsAt {P:Program}{w0 w:World}{L:List LBlk}{D:List Datum}{b:Nat}{T Tv:TypeId}{cs:List Value}{f:List Value→List LBlk}{off:Nat}{v:Value}(hL:Loc w0 w L D) (hm:InL b T cs L f) (hv:Reads P Tv cs off v):ReadsAt P Tv w b off v:=
 ⟨heap_lt (hL.heap hm),fun w' h=>hv.run w' b (fun j=>(h j).trans (hL.cell hm j))⟩
theorem tFun:CellT Tryz.prog 138:=⟨by kernel_rfl,by kernel_rfl⟩
theorem zFun:ZeroT Tryz.prog 138 [.nilFunc]:=⟨by kernel_rfl⟩
theorem enter1:∀ args w,(callFunc 126 args).run Tryz.prog w=.ok (.enter 126 args) w:=fun args w=>by kernel_rfl
theorem enter2:∀ args w,(callFunc 128 args).run Tryz.prog w=.ok (.enter 128 args) w:=fun args w=>by kernel_rfl
theorem enter3:∀ args w,(callFunc 129 args).run Tryz.prog w=.ok (.enter 129 args) w:=fun args w=>by kernel_rfl
theorem enter4:∀ args w,(callFunc 132 args).run Tryz.prog w=.ok (.enter 132 args) w:=fun args w=>by kernel_rfl
theorem right1_any (p:Pg) (is:Nat→Ins) (t:Th) (b:Nat) (w:World) (hr:ReadsAt Tryz.prog 27 w b 0 p.v) (hc:CodeAt w p is):
  Calls Tryz.prog 126 #[t.v,.pointer (some ⟨b,0,none⟩)] w fun e w'=>e=.returned (.bool (!isSite p is t.site))∧Below w.heap.size w w':=by
 have HC:=Lib.hid hc
 clear hc
 have hL:=Loc.start w
 go_enter Tryz.func126,Tryz.ntmps126
 go_wp2_with (first|(with_reducible first|refine lld hL ?_|((first|refine lbx hL ?_|refine lal hL ?_|refine lbs hL ?_);clear hL;intro bl w1 hL)|(refine lst' hL ?_;clear hL;intro w1 hL))|(refine loc_loadB hr hL rfl rfl ?_)|(go_at_call 127;refine(isSite_any p is _ _ (HC.out.grow hL.below)).mono ?_;rintro e w1 ⟨rfl,hb⟩;replace hL:=hL.grow hb;clear hb;dsimp only))
 (try simp only[Exit.inBlock,Exit.then]);refine rt1 ?_
 exact⟨rfl,hL.below⟩
theorem right2_any (fields:Int) (t:Th) (b:Nat) (w:World) (hr:ReadsAt Tryz.prog 3 w b 1 (.int .i64 fields)):
  Calls Tryz.prog 128 #[t.v,.pointer (some ⟨b,0,none⟩)] w fun e w'=>e=.returned (.bool ((t.fs.n:Int) != fields))∧Below w.heap.size w w':=by
 have hL:=Loc.start w
 go_enter Tryz.func128,Tryz.ntmps128
 go_wp2_with (first|(with_reducible first|refine lld hL ?_|((first|refine lbx hL ?_|refine lal hL ?_|refine lbs hL ?_);clear hL;intro bl w1 hL)|(refine lst' hL ?_;clear hL;intro w1 hL))|(refine loc_loadB hr hL rfl rfl ?_))
 (try simp only[Exit.inBlock,Exit.then]);refine rt1 ?_
 exact⟨rfl,hL.below⟩
theorem right3_any (s:Sl) (v:Vl) (b:Nat) (w:World) (hn:s.n≤9223372036854775807) (hr:ReadsAt Tryz.prog 43 w b 2 s.v):
  Calls Tryz.prog 129 #[v.v,.pointer (some ⟨b,0,none⟩)] w fun e w'=>e=.returned (.bool (!isValue v s.n))∧Below w.heap.size w w':=by
 have hL:=Loc.start w
 go_enter Tryz.func129,Tryz.ntmps129
 go_wp2_with (first|(with_reducible first|refine lld hL ?_|((first|refine lbx hL ?_|refine lal hL ?_|refine lbs hL ?_);clear hL;intro bl w1 hL)|(refine lst' hL ?_;clear hL;intro w1 hL))|(refine loc_loadB hr hL rfl rfl ?_)|(go_at_call 130;refine(value_any _ _ (by omega) (by omega) _).mono ?_;rintro e w1 ⟨rfl,hb⟩;replace hL:=hL.grow hb;clear hb;dsimp only))
 (try simp only[Exit.inBlock,Exit.then]);refine rt1 ?_
 exact⟨rfl,hL.below⟩
theorem fn3 (s:Sl) (b:Nat) (w:World) (hn:s.n≤9223372036854775807) (hr:ReadsAt Tryz.prog 43 w b 2 s.v) (n:Nat) (vs:Nat→Vl):
  FnAt Tryz.prog 129 (.pointer (some ⟨b,0,none⟩)) w n (fun k=>(vs k).v) (fun k=>!isValue (vs k) s.n):=
 ⟨enter3,fun k _ w' hb=>right3_any s (vs k) b w' hn (hr.grow hb)⟩
theorem right4_any (s:Sl) (t:Th) (vs:Nat→Vl) (b bW:Nat) (w:World) (hn:s.n≤9223372036854775807) (hn2:t.fs.n≤9223372036854775807) (hr:ReadsAt Tryz.prog 43 w b 2 s.v)
  (hw:ReadsAt Tryz.prog 138 w bW 0 (.func (.func 129) #[] #[.pointer (some ⟨b,0,none⟩)])) (hl:ListAt Tryz.prog 77 2 w t.fs.p t.fs.n (fun k=>(vs k).v)):
  Calls Tryz.prog 132 #[t.v,.pointer (some ⟨bW,0,none⟩)] w fun e w'=>e=.returned (.bool (anyN (fun k=>!isValue (vs k) s.n) t.fs.n))∧Below w.heap.size w w':=by
 have HK:=Lib.hid (fun w' (hb:Below w.heap.size w w')=>containsValues t.fs.p t.fs.n t.fs.cap (fun k=>(vs k).v) (fun k=>!isValue (vs k) s.n) 129 (.pointer (some ⟨b,0,none⟩)) w' hn2 (hl.grow hb) (fn3 s b w' hn (hr.grow hb) t.fs.n vs))
 clear hl
 have hL:=Loc.start w
 go_enter Tryz.func132,Tryz.ntmps132
 go_wp2_with (first|(with_reducible first|refine lld hL ?_|((first|refine lbx hL ?_|refine lal hL ?_|refine lbs hL ?_);clear hL;intro bl w1 hL)|(refine lst' hL ?_;clear hL;intro w1 hL))|(refine loc_loadB hw hL rfl rfl ?_)|(go_at_call 131;refine(HK.out _ hL.below).mono ?_;rintro e w1 ⟨rfl,hb⟩;replace hL:=hL.grow hb;clear hb;dsimp only))
 (try simp only[Exit.inBlock,Exit.then]);refine rt1 ?_
 exact⟨rfl,hL.below⟩
theorem codeCheck_any (p:Pg) (is:Nat→Ins) (w:World) (hc:CodeAt w p is) (hn:p.n≤9223372036854775807):
  Calls Tryz.prog 43 #[p.v] w fun e w'=>e=.returned (.int .i64 (checkProg p is))∧Below w.heap.size w w':=by
 obtain⟨b,o,hpc,hc⟩:=hc.reads
 have HP:=Lib.hid hpc
 have HC:=Lib.hid hc
 clear hpc hc
 have HF:=Lib.hid (show checkProg p is=if headBad p then 3 else if 60<p.n then 2 else firstErr (fun k=>checkOne p (is k)) 0 p.n from rfl)
 have hL:=Loc.start w
 go_enter Tryz.func43,Tryz.ntmps43
 go_step
 go_step
 go_step
 ((with_reducible refine lbx hL ?_);clear hL;intro b1 w1 hL)
 go_upto_region 1 with(first|(with_reducible first|refine lld hL ?_|((first|refine lbx hL ?_|refine lal hL ?_|refine lbs hL ?_);clear hL;intro bl w1 hL)|(refine lst' hL ?_;clear hL;intro w1 hL)))
 refine seq_begin [7,8,9,10,11,12,13,14,15,16,6] ?_
 refine dv0 ?_
 refine dv1 0 ?_
 apply draw_val
 ·intro g w hb y;replace hL:=hL.grow hb;have d1:=yv y 1;clear y;simp only[fillD,fLa,fLb,sTa,sTb];simp only[d1]
  go_wp2_with (go_at_call 85;refine(within_any _ _ _ _).mono ?_;rintro e w' ⟨rfl,rfl⟩;dsimp only)
  exact⟨rfl,_,rfl,Below.refl _ _,rfl⟩
 simp only[apN,apC]
 refine dv1 2 ?_
 refine dv1 3 ?_
 refine dg0 4 ?_
 refine dg1 4 5 ?_
 refine' draw_guard (j:=4) rfl rfl rfl (by decide) (by simp) ?_ ?_;rotate_left
 ·intro hcs;simp only[Bool.and_eq_true,beqT,beqF]at hcs;intro g w hb y;replace hL:=hL.grow hb;have d6:=yv y 6;simp only[hcs,beq_self_eq_true,Bool.and_self,Bool.true_and,Bool.and_true,cnd_true]at d6;clear y;simp only[fillD,fLa,fLb,sTa,sTb];simp only[d6]
  go_wp2_with (go_at_call 85;refine(within_any _ _ _ _).mono ?_;rintro e w' ⟨rfl,rfl⟩;dsimp only)
  exact⟨rfl,_,rfl,Below.refl _ _,rfl⟩
 simp only[apN,apC]
 refine dg1 4 7 ?_
 refine dpo 4 8 ?_
 refine dv1 9 ?_
 refine dns hL ?_
 clear hL;intro w2 hL;simp only[fillX,sTa,sTb]
 cases h1:headBad p with
 | true=>
  have h0:=h1
  unfold headBad at h0
  simp only[h0]
  clear h0
  have H1:=Lib.hid h1
  clear h1
  go_wp2
  (try simp only[Exit.inBlock,Exit.then]);refine rt1 ?_
  exact⟨by rw[HF.out,if_pos H1.out];rfl,hL.below⟩
 | false=>
 have h0:=h1
 unfold headBad at h0
 simp only[h0]
 clear h0
 have H1:=Lib.hid h1
 clear h1
 by_cases hm:60<p.n
 ·go_wp2_with (first|(with_reducible first|refine lld hL ?_|((first|refine lbx hL ?_|refine lal hL ?_|refine lbs hL ?_);clear hL;intro bl w1 hL)|(refine lst' hL ?_;clear hL;intro w1 hL)))
  (try simp only[Exit.inBlock,Exit.then]);refine rt1 ?_
  exact⟨by rw[HF.out,if_neg (by rw[H1.out];decide),if_pos hm];rfl,hL.below⟩
 have HS:=Lib.hid (small_of H1.out hm)
 have HG:=Lib.hid (show checkProg p is=firstErr (fun k=>checkOne p (is k)) 0 p.n from by rw[HF.out,if_neg (by rw[H1.out];decide),if_neg hm])
 have hle:p.n≤60:=by omega
 clear hm
 go_wp2_with (first|(with_reducible first|refine lld hL ?_|((first|refine lbx hL ?_|refine lal hL ?_|refine lbs hL ?_);clear hL;intro bl w1 hL)|(refine lst' hL ?_;clear hL;intro w1 hL)))
 go_loopw [25] (fun c wr=>∃ k:Nat,k≤p.n∧c=.int .i64 k∧checkProg p is=firstErr (fun k=>checkOne p (is k)) k (p.n - k)∧Loc w wr [(b1,27,[.int .i64 p.vars,.int .i64 p.fields,.slice p.pc p.n p.cap])] []) (fun c _=>p.n - (intOf c).toNat)
 case atStart=>exact⟨0,Nat.zero_le _,rfl,HG.out,hL⟩
 case round=>
  obtain⟨k,hk,rfl,hg,hL⟩:=hrel
  have HK:=Lib.hid hg
  clear hg
  by_cases hlt:k<p.n
  ·obtain⟨m,hm⟩:∃ m,p.n - k=m+1:=⟨p.n - k - 1,by omega⟩
   have hstep:=HK.out
   rw[hm,firstErr]at hstep
   have hm2:p.n - (k+1)=m:=by omega
   rw[← hm2]at hstep
   have HST:=Lib.hid hstep
   have hp:=HP.out (by omega)
   have HPC:=Lib.hid hp
   have hr:=HC.out k hlt
   have hone:=one_any p (is k) HS.out
   have HR:=Lib.hid hr
   clear hstep hm hm2 hp hr
   by_cases he:checkOne p (is k)=0
   ·rw[he]at hone
    have HO:=Lib.hid hone
    have HE:=Lib.hid he
    clear hone he
    go_upto_region 7 with(first|(with_reducible first|refine lld hL ?_|((first|refine lbx hL ?_|refine lal hL ?_|refine lbs hL ?_);clear hL;intro bl w1 hL)|(refine lst' hL ?_;clear hL;intro w1 hL)))
    refine seq_begin [27,28,4] ?_
    apply draw_val
    ·intro g w hb y;replace hL:=hL.grow hb;clear y;simp only[fillD,fLa,fLb,sTa,sTb]
     (simp only[HPC.out];go_wp2)
     exact cY
    simp only[apN,apC]
    apply draw_val
    ·intro g w hb y;replace hL:=hL.grow hb;have d0:=yv y 0;clear y;simp only[fillD,fLa,fLb,sTa,sTb];simp only[d0]
     refine loc_loadB HR.out hL rfl rfl ?_
     exact cY
    simp only[apN,apC]
    apply draw_ptr
    ·intro g w hb y;replace hL:=hL.grow hb;clear y;simp only[fillD,fLa,fLb,sTa,sTb]
     go_wp2
     exact⟨rfl,_,rfl,(Below.refl _ _).alloc (Nat.le_refl _) _,_,hb.size,rfl,heap_new _ _⟩
    simp only[apN,apC]
    refine seq_end hL (by kernel_rfl) ?_
    intro g w2 hb hR;simp only[List.length_cons,List.length_nil,Nat.reduceAdd]at hR
    have e0:=yv hR 0
    have e1:=yv hR 1
    obtain⟨b2,p2,e2,c2⟩:=rat_ptr (allR_get hR (j:=2) (by decide)) rfl rfl
    clear hR;simp only[fillD,fLa,fLb,sTa,sTb]
    simp only[e0,e1,e2]
    clear e0 e1 e2
    replace hL:=hL.gain hb p2 c2
    clear p2 c2
    clear hb
    go_wp2_with (first|(with_reducible first|refine lld hL ?_|((first|refine lbx hL ?_|refine lal hL ?_|refine lbs hL ?_);clear hL;intro bl w1 hL)|(refine lst' hL ?_;clear hL;intro w1 hL))|(go_at_call 86;refine(HO.out _).mono ?_;rintro e w1 ⟨rfl,hb⟩;replace hL:=hL.grow hb;clear hb;dsimp only))
    go_roundw
    case rel=>exact⟨k+1,by omega,by go_num,by have h:=HST.out;rw[if_neg (by simp[HE.out])]at h;exact h,hL.drop (.cons _ (List.Sublist.refl _)) (fun _ h=>h)⟩
    case measure=>simp[intOf];omega
   ·have hst:checkProg p is=checkOne p (is k):=by have h:=HST.out;rw[if_pos he]at h;exact h
    have hne:(checkOne p (is k) != 0)=true:=by simp[he]
    generalize checkOne p (is k)=ce at hone hst hne
    have HO:=Lib.hid hone
    have HE:=Lib.hid hst
    clear hone hst he
    go_upto_region 7 with(first|(with_reducible first|refine lld hL ?_|((first|refine lbx hL ?_|refine lal hL ?_|refine lbs hL ?_);clear hL;intro bl w1 hL)|(refine lst' hL ?_;clear hL;intro w1 hL)))
    refine seq_begin [27,28,4] ?_
    apply draw_val
    ·intro g w hb y;replace hL:=hL.grow hb;clear y;simp only[fillD,fLa,fLb,sTa,sTb]
     (simp only[HPC.out];go_wp2)
     exact cY
    simp only[apN,apC]
    apply draw_val
    ·intro g w hb y;replace hL:=hL.grow hb;have d0:=yv y 0;clear y;simp only[fillD,fLa,fLb,sTa,sTb];simp only[d0]
     refine loc_loadB HR.out hL rfl rfl ?_
     exact cY
    simp only[apN,apC]
    apply draw_ptr
    ·intro g w hb y;replace hL:=hL.grow hb;clear y;simp only[fillD,fLa,fLb,sTa,sTb]
     go_wp2
     exact⟨rfl,_,rfl,(Below.refl _ _).alloc (Nat.le_refl _) _,_,hb.size,rfl,heap_new _ _⟩
    simp only[apN,apC]
    refine seq_end hL (by kernel_rfl) ?_
    intro g w2 hb hR;simp only[List.length_cons,List.length_nil,Nat.reduceAdd]at hR
    have e0:=yv hR 0
    have e1:=yv hR 1
    obtain⟨b2,p2,e2,c2⟩:=rat_ptr (allR_get hR (j:=2) (by decide)) rfl rfl
    clear hR;simp only[fillD,fLa,fLb,sTa,sTb]
    simp only[e0,e1,e2]
    clear e0 e1 e2
    replace hL:=hL.gain hb p2 c2
    clear p2 c2
    clear hb
    go_wp2_with (first|(with_reducible first|refine lld hL ?_|((first|refine lbx hL ?_|refine lal hL ?_|refine lbs hL ?_);clear hL;intro bl w1 hL)|(refine lst' hL ?_;clear hL;intro w1 hL))|(go_at_call 86;refine(HO.out _).mono ?_;rintro e w1 ⟨rfl,hb⟩;replace hL:=hL.grow hb;clear hb;dsimp only))
    (try simp only[Exit.inBlock,Exit.then]);refine rt1 ?_
    exact⟨by rw[HE.out];rfl,hL.below⟩
  ·go_wp2_with (first|(with_reducible first|refine lld hL ?_|((first|refine lbx hL ?_|refine lal hL ?_|refine lbs hL ?_);clear hL;intro bl w1 hL)|(refine lst' hL ?_;clear hL;intro w1 hL)))
   (try simp only[Exit.inBlock,Exit.then]);refine rt1 ?_
   exact⟨by rw[HK.out,show p.n - k=0 by omega];rfl,hL.below⟩
end Go.Proofs.YtplcndmdkabmeaaGreatDoor
