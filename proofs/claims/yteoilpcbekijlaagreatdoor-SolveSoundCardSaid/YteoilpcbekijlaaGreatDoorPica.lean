import Derived.Test.YteoilpcbekijlaaGreatDoorCod
import Derived.Test.YteoilpcbekijlaaGreatDoorGue
import Derived.Test.YteoilpcbekijlaaGreatDoorVal
import Derived.Deep.CutBlock
import Derived.Test.YteoilpcbekijlaaGreatDoorGua
set_option linter.unusedSimpArgs false
set_option linter.unusedVariables false
set_option maxRecDepth 100000
set_option maxHeartbeats 2000000
namespace Go.Proofs.YteoilpcbekijlaaGreatDoor
open Go.RowKit
structure FnAtC (P:Program) (K:FuncId) (cs:List Value) (w:World) (n:Nat) (f:Nat→Value) (q:Nat→Bool):Prop where
 enter:∀ args w,(callFunc K args).run P w=.ok (.enter K args) w
 run:∀ k,k<n→∀ w',Below w.heap.size w w'→Calls P K (f k::cs).toArray w' fun e w''=>e=.returned (.bool (q k))∧Below w'.heap.size w' w''
def equalN (a b:Nat) (q:Nat→Bool):Bool:=a==b && !anyN (fun k=>!q k) a
theorem equalN_len {a b:Nat}{q:Nat→Bool}(h:a≠b):equalN a b q=false:=by simp[equalN,h]
theorem equalN_no {a b:Nat}{q:Nat→Bool}{k:Nat}(h:k<a) (hq:q k=false):equalN a b q=false:=by
 simp[equalN,anyN_yes (q:=fun k=>!q k) h (by simp[hq])]
theorem equalN_all {a:Nat}{q:Nat→Bool}(h:∀ k,k<a→q k=true):equalN a a q=true:=by
 unfold equalN
 rw[anyN_no (q:=fun k=>!q k) (fun k hk=>by rw[h k hk];rfl)]
 simp
abbrev Sl.row (s:Sl):List Value:=[.slice s.p s.n s.cap]
theorem readRow {w:World}{b o k:Nat}{s:Sl}(hb:b<w.heap.size) (h:∀ j v,(s.row)[j]? = some v→w.cell? ⟨b,o+k*1+j,none⟩=some v):ReadsAt Tryz.prog 51 w b (o+k) s.v:=by
 have:=ReadsAt.cell (P:=Tryz.prog) tGuesses hb (h 0 _ rfl)
 rwa [Nat.mul_one,Nat.add_zero]at this
theorem indexRows (p:Option Addr) (n cap:Nat) (f:Nat→Value) (q:Nat→Bool) (K:FuncId) (c0:Value) (w:World) (hn:n≤9223372036854775807) (hl:ListAt Tryz.prog 51 1 w p n f) (hf:FnAtC Tryz.prog K [c0] w n f q):
  Calls Tryz.prog 173 #[.slice p n cap,.func (.func K) #[] #[c0]] w fun e w'=>∃ r:Int,e=.returned (.int .i64 r)∧decide (0≤r)=anyN q n∧Below w.heap.size w w':=by
 obtain⟨b,o,hp,hc⟩:=hl.ex
 have HP:=Lib.hid hp
 have HC:=Lib.hid hc
 have HF:=Lib.hid hf.run
 have he:=hf.enter
 clear hp hc hl hf
 have hL:=Loc.start w
 go_enter Tryz.func173,Tryz.ntmps173
 go_wp2
 go_loopw [8] (fun x wr=>∃ k:Nat,k≤n∧x=.int .i64 k∧(∀ j,j<k→q j=false)∧Loc w wr [] []) (fun x _=>n - (intOf x).toNat)
 case atStart=>exact⟨0,Nat.zero_le _,rfl,fun j hj=>absurd hj (by omega),hL⟩
 case round=>
  obtain⟨k,hk,rfl,hq,hL⟩:=hrel
  have HQ:=Lib.hid hq
  clear hq
  by_cases hlt:k<n
  ·have HPC:=Lib.hid (HP.out (by omega))
   have HR:=Lib.hid (by have h1:=HC.out k hlt;rw[Nat.mul_one]at h1;exact h1)
   have hk2:=HF.out k hlt
   cases hqk:q k with
   | true=>
    rw[hqk]at hk2
    have HK2:=Lib.hid hk2
    have HA:=Lib.hid (anyN_yes hlt hqk)
    clear hk2 hqk
    go_upto_region 4 with(fail)
    refine seq_begin [11,12,13,14,15,16] ?_
    refine dv0 ?_
    refine dv0 ?_
    refine dv0 ?_
    apply draw_val
    ·intro g w hb V;replace hL:=hL.grow hb;have d1:=yv V 1;have d2:=yv V 2;clear V;simp only[fillD,fLa,fLb,sTa,sTb];simp only[d1,d2]
     (simp only[HPC.out];go_wp2)
     exact cY
    simp only[apN,apC]
    apply draw_val
    ·intro g w hb V;replace hL:=hL.grow hb;have d3:=yv V 3;clear V;simp only[fillD,fLa,fLb,sTa,sTb];simp only[d3]
     refine loc_loadB HR.out hL rfl rfl ?_
     exact cY
    simp only[apN,apC]
    apply draw_val
    ·intro g w hb V;replace hL:=hL.grow hb;have d0:=yv V 0;have d4:=yv V 4;clear V;simp only[fillD,fLa,fLb,sTa,sTb];simp only[d0,d4]
     go_wp2_with ((with_reducible refine(HK2.out _ hL.below).mono ?_);rintro e w3 ⟨rfl,hb3⟩;dsimp only)
     exact⟨rfl,_,rfl,hb3,rfl⟩
    simp only[apN,apC]
    refine dns hL ?_
    clear hL;intro w2 hL;simp only[fillX,sTa,sTb]
    go_wp2
    go_ret
    exact⟨_,rfl,by rw[HA.out];simp,hL.below⟩
   | false=>
    rw[hqk]at hk2
    have HK2:=Lib.hid hk2
    have HA:=Lib.hid hqk
    clear hk2 hqk
    go_upto_region 4 with(fail)
    refine seq_begin [11,12,13,14,15,16] ?_
    refine dv0 ?_
    refine dv0 ?_
    refine dv0 ?_
    apply draw_val
    ·intro g w hb V;replace hL:=hL.grow hb;have d1:=yv V 1;have d2:=yv V 2;clear V;simp only[fillD,fLa,fLb,sTa,sTb];simp only[d1,d2]
     (simp only[HPC.out];go_wp2)
     exact cY
    simp only[apN,apC]
    apply draw_val
    ·intro g w hb V;replace hL:=hL.grow hb;have d3:=yv V 3;clear V;simp only[fillD,fLa,fLb,sTa,sTb];simp only[d3]
     refine loc_loadB HR.out hL rfl rfl ?_
     exact cY
    simp only[apN,apC]
    apply draw_val
    ·intro g w hb V;replace hL:=hL.grow hb;have d0:=yv V 0;have d4:=yv V 4;clear V;simp only[fillD,fLa,fLb,sTa,sTb];simp only[d0,d4]
     go_wp2_with ((with_reducible refine(HK2.out _ hL.below).mono ?_);rintro e w3 ⟨rfl,hb3⟩;dsimp only)
     exact⟨rfl,_,rfl,hb3,rfl⟩
    simp only[apN,apC]
    refine dns hL ?_
    clear hL;intro w2 hL;simp only[fillX,sTa,sTb]
    go_wp2
    go_roundw
    case rel=>
     refine⟨k+1,by omega,by go_num,fun j hj=>?_,hL⟩
     rcases Nat.lt_or_ge j k with h|h
     ·exact HQ.out j h
     ·obtain rfl:j=k:=by omega
      exact HA.out
    case measure=>simp[intOf];omega
  ·obtain rfl:k=n:=by omega
   go_wp2
   go_ret
   exact⟨_,rfl,by rw[anyN_no HQ.out];rfl,hL.below⟩
theorem containsRows (p:Option Addr) (n cap:Nat) (f:Nat→Value) (q:Nat→Bool) (K:FuncId) (c0:Value) (w:World) (hn:n≤9223372036854775807) (hl:ListAt Tryz.prog 51 1 w p n f) (hf:FnAtC Tryz.prog K [c0] w n f q):
  Calls Tryz.prog 122 #[.slice p n cap,.func (.func K) #[] #[c0]] w fun e w'=>e=.returned (.bool (anyN q n))∧Below w.heap.size w w':=by
 have HI:=Lib.hid (indexRows p n cap f q K c0 w hn hl hf)
 clear hl hf
 go_enter Tryz.func122,Tryz.ntmps122
 go_wp2_with (go_at_call 173;refine HI.out.mono ?_;rintro e w1 ⟨r,rfl,hr,hb⟩;dsimp only)
 go_ret
 exact⟨by rw[← hr];rfl,hb⟩
theorem indexGuesses (p:Option Addr) (n cap:Nat) (f:Nat→Value) (q:Nat→Bool) (K:FuncId) (w:World) (hn:n≤9223372036854775807) (hl:ListAt Tryz.prog 110 7 w p n f) (hf:FnAtC Tryz.prog K [] w n f q):
  Calls Tryz.prog 177 #[.slice p n cap,.func (.func K) #[] #[]] w fun e w'=>∃ r:Int,e=.returned (.int .i64 r)∧decide (0≤r)=anyN q n∧Below w.heap.size w w':=by
 obtain⟨b,o,hp,hc⟩:=hl.ex
 have HP:=Lib.hid hp
 have HC:=Lib.hid hc
 have HF:=Lib.hid hf.run
 have he:=hf.enter
 clear hp hc hl hf
 have hL:=Loc.start w
 go_enter Tryz.func177,Tryz.ntmps177
 go_wp2
 go_loopw [8] (fun x wr=>∃ k:Nat,k≤n∧x=.int .i64 k∧(∀ j,j<k→q j=false)∧Loc w wr [] []) (fun x _=>n - (intOf x).toNat)
 case atStart=>exact⟨0,Nat.zero_le _,rfl,fun j hj=>absurd hj (by omega),hL⟩
 case round=>
  obtain⟨k,hk,rfl,hq,hL⟩:=hrel
  have HQ:=Lib.hid hq
  clear hq
  by_cases hlt:k<n
  ·have HPC:=Lib.hid (HP.out (by omega))
   have HR:=Lib.hid (HC.out k hlt)
   have hk2:=HF.out k hlt
   cases hqk:q k with
   | true=>
    rw[hqk]at hk2
    have HK2:=Lib.hid hk2
    have HA:=Lib.hid (anyN_yes hlt hqk)
    clear hk2 hqk
    go_upto_region 4 with(fail)
    refine seq_begin [11,12,13,14,15,16] ?_
    refine dv0 ?_
    refine dv0 ?_
    refine dv0 ?_
    apply draw_val
    ·intro g w hb V;replace hL:=hL.grow hb;have d1:=yv V 1;have d2:=yv V 2;clear V;simp only[fillD,fLa,fLb,sTa,sTb];simp only[d1,d2]
     (simp only[HPC.out];go_wp2)
     exact cY
    simp only[apN,apC]
    apply draw_val
    ·intro g w hb V;replace hL:=hL.grow hb;have d3:=yv V 3;clear V;simp only[fillD,fLa,fLb,sTa,sTb];simp only[d3]
     refine loc_loadB HR.out hL rfl rfl ?_
     exact cY
    simp only[apN,apC]
    apply draw_val
    ·intro g w hb V;replace hL:=hL.grow hb;have d0:=yv V 0;have d4:=yv V 4;clear V;simp only[fillD,fLa,fLb,sTa,sTb];simp only[d0,d4]
     go_wp2_with ((with_reducible refine(HK2.out _ hL.below).mono ?_);rintro e w3 ⟨rfl,hb3⟩;dsimp only)
     exact⟨rfl,_,rfl,hb3,rfl⟩
    simp only[apN,apC]
    refine dns hL ?_
    clear hL;intro w2 hL;simp only[fillX,sTa,sTb]
    go_wp2
    go_ret
    exact⟨_,rfl,by rw[HA.out];simp,hL.below⟩
   | false=>
    rw[hqk]at hk2
    have HK2:=Lib.hid hk2
    have HA:=Lib.hid hqk
    clear hk2 hqk
    go_upto_region 4 with(fail)
    refine seq_begin [11,12,13,14,15,16] ?_
    refine dv0 ?_
    refine dv0 ?_
    refine dv0 ?_
    apply draw_val
    ·intro g w hb V;replace hL:=hL.grow hb;have d1:=yv V 1;have d2:=yv V 2;clear V;simp only[fillD,fLa,fLb,sTa,sTb];simp only[d1,d2]
     (simp only[HPC.out];go_wp2)
     exact cY
    simp only[apN,apC]
    apply draw_val
    ·intro g w hb V;replace hL:=hL.grow hb;have d3:=yv V 3;clear V;simp only[fillD,fLa,fLb,sTa,sTb];simp only[d3]
     refine loc_loadB HR.out hL rfl rfl ?_
     exact cY
    simp only[apN,apC]
    apply draw_val
    ·intro g w hb V;replace hL:=hL.grow hb;have d0:=yv V 0;have d4:=yv V 4;clear V;simp only[fillD,fLa,fLb,sTa,sTb];simp only[d0,d4]
     go_wp2_with ((with_reducible refine(HK2.out _ hL.below).mono ?_);rintro e w3 ⟨rfl,hb3⟩;dsimp only)
     exact⟨rfl,_,rfl,hb3,rfl⟩
    simp only[apN,apC]
    refine dns hL ?_
    clear hL;intro w2 hL;simp only[fillX,sTa,sTb]
    go_wp2
    go_roundw
    case rel=>
     refine⟨k+1,by omega,by go_num,fun j hj=>?_,hL⟩
     rcases Nat.lt_or_ge j k with h|h
     ·exact HQ.out j h
     ·obtain rfl:j=k:=by omega
      exact HA.out
    case measure=>simp[intOf];omega
  ·obtain rfl:k=n:=by omega
   go_wp2
   go_ret
   exact⟨_,rfl,by rw[anyN_no HQ.out];rfl,hL.below⟩
theorem containsGuesses (p:Option Addr) (n cap:Nat) (f:Nat→Value) (q:Nat→Bool) (K:FuncId) (w:World) (hn:n≤9223372036854775807) (hl:ListAt Tryz.prog 110 7 w p n f) (hf:FnAtC Tryz.prog K [] w n f q):
  Calls Tryz.prog 125 #[.slice p n cap,.func (.func K) #[] #[]] w fun e w'=>e=.returned (.bool (anyN q n))∧Below w.heap.size w w':=by
 have HI:=Lib.hid (indexGuesses p n cap f q K  w hn hl hf)
 clear hl hf
 go_enter Tryz.func125,Tryz.ntmps125
 go_wp2_with (go_at_call 177;refine HI.out.mono ?_;rintro e w1 ⟨r,rfl,hr,hb⟩;dsimp only)
 go_ret
 exact⟨by rw[← hr];rfl,hb⟩
theorem indexThings2 (p:Option Addr) (n cap:Nat) (f:Nat→Value) (q:Nat→Bool) (K:FuncId) (c0 c1:Value) (w:World) (hn:n≤9223372036854775807) (hl:ListAt Tryz.prog 83 2 w p n f) (hf:FnAtC Tryz.prog K [c0,c1] w n f q):
  Calls Tryz.prog 155 #[.slice p n cap,.func (.func K) #[] #[c0,c1]] w fun e w'=>∃ r:Int,e=.returned (.int .i64 r)∧decide (0≤r)=anyN q n∧Below w.heap.size w w':=by
 obtain⟨b,o,hp,hc⟩:=hl.ex
 have HP:=Lib.hid hp
 have HC:=Lib.hid hc
 have HF:=Lib.hid hf.run
 have he:=hf.enter
 clear hp hc hl hf
 have hL:=Loc.start w
 go_enter Tryz.func155,Tryz.ntmps155
 go_wp2
 go_loopw [8] (fun x wr=>∃ k:Nat,k≤n∧x=.int .i64 k∧(∀ j,j<k→q j=false)∧Loc w wr [] []) (fun x _=>n - (intOf x).toNat)
 case atStart=>exact⟨0,Nat.zero_le _,rfl,fun j hj=>absurd hj (by omega),hL⟩
 case round=>
  obtain⟨k,hk,rfl,hq,hL⟩:=hrel
  have HQ:=Lib.hid hq
  clear hq
  by_cases hlt:k<n
  ·have HPC:=Lib.hid (HP.out (by omega))
   have HR:=Lib.hid (HC.out k hlt)
   have hk2:=HF.out k hlt
   cases hqk:q k with
   | true=>
    rw[hqk]at hk2
    have HK2:=Lib.hid hk2
    have HA:=Lib.hid (anyN_yes hlt hqk)
    clear hk2 hqk
    go_upto_region 4 with(fail)
    refine seq_begin [11,12,13,14,15,16] ?_
    refine dv0 ?_
    refine dv0 ?_
    refine dv0 ?_
    apply draw_val
    ·intro g w hb V;replace hL:=hL.grow hb;have d1:=yv V 1;have d2:=yv V 2;clear V;simp only[fillD,fLa,fLb,sTa,sTb];simp only[d1,d2]
     (simp only[HPC.out];go_wp2)
     exact cY
    simp only[apN,apC]
    apply draw_val
    ·intro g w hb V;replace hL:=hL.grow hb;have d3:=yv V 3;clear V;simp only[fillD,fLa,fLb,sTa,sTb];simp only[d3]
     refine loc_loadB HR.out hL rfl rfl ?_
     exact cY
    simp only[apN,apC]
    apply draw_val
    ·intro g w hb V;replace hL:=hL.grow hb;have d0:=yv V 0;have d4:=yv V 4;clear V;simp only[fillD,fLa,fLb,sTa,sTb];simp only[d0,d4]
     go_wp2_with ((with_reducible refine(HK2.out _ hL.below).mono ?_);rintro e w3 ⟨rfl,hb3⟩;dsimp only)
     exact⟨rfl,_,rfl,hb3,rfl⟩
    simp only[apN,apC]
    refine dns hL ?_
    clear hL;intro w2 hL;simp only[fillX,sTa,sTb]
    go_wp2
    go_ret
    exact⟨_,rfl,by rw[HA.out];simp,hL.below⟩
   | false=>
    rw[hqk]at hk2
    have HK2:=Lib.hid hk2
    have HA:=Lib.hid hqk
    clear hk2 hqk
    go_upto_region 4 with(fail)
    refine seq_begin [11,12,13,14,15,16] ?_
    refine dv0 ?_
    refine dv0 ?_
    refine dv0 ?_
    apply draw_val
    ·intro g w hb V;replace hL:=hL.grow hb;have d1:=yv V 1;have d2:=yv V 2;clear V;simp only[fillD,fLa,fLb,sTa,sTb];simp only[d1,d2]
     (simp only[HPC.out];go_wp2)
     exact cY
    simp only[apN,apC]
    apply draw_val
    ·intro g w hb V;replace hL:=hL.grow hb;have d3:=yv V 3;clear V;simp only[fillD,fLa,fLb,sTa,sTb];simp only[d3]
     refine loc_loadB HR.out hL rfl rfl ?_
     exact cY
    simp only[apN,apC]
    apply draw_val
    ·intro g w hb V;replace hL:=hL.grow hb;have d0:=yv V 0;have d4:=yv V 4;clear V;simp only[fillD,fLa,fLb,sTa,sTb];simp only[d0,d4]
     go_wp2_with ((with_reducible refine(HK2.out _ hL.below).mono ?_);rintro e w3 ⟨rfl,hb3⟩;dsimp only)
     exact⟨rfl,_,rfl,hb3,rfl⟩
    simp only[apN,apC]
    refine dns hL ?_
    clear hL;intro w2 hL;simp only[fillX,sTa,sTb]
    go_wp2
    go_roundw
    case rel=>
     refine⟨k+1,by omega,by go_num,fun j hj=>?_,hL⟩
     rcases Nat.lt_or_ge j k with h|h
     ·exact HQ.out j h
     ·obtain rfl:j=k:=by omega
      exact HA.out
    case measure=>simp[intOf];omega
  ·obtain rfl:k=n:=by omega
   go_wp2
   go_ret
   exact⟨_,rfl,by rw[anyN_no HQ.out];rfl,hL.below⟩
theorem containsThings2 (p:Option Addr) (n cap:Nat) (f:Nat→Value) (q:Nat→Bool) (K:FuncId) (c0 c1:Value) (w:World) (hn:n≤9223372036854775807) (hl:ListAt Tryz.prog 83 2 w p n f) (hf:FnAtC Tryz.prog K [c0,c1] w n f q):
  Calls Tryz.prog 104 #[.slice p n cap,.func (.func K) #[] #[c0,c1]] w fun e w'=>e=.returned (.bool (anyN q n))∧Below w.heap.size w w':=by
 have HI:=Lib.hid (indexThings2 p n cap f q K c0 c1 w hn hl hf)
 clear hl hf
 go_enter Tryz.func104,Tryz.ntmps104
 go_wp2_with (go_at_call 155;refine HI.out.mono ?_;rintro e w1 ⟨r,rfl,hr,hb⟩;dsimp only)
 go_ret
 exact⟨by rw[← hr];rfl,hb⟩
theorem equalGG (s t:Sl) (gs:Nat→Gu) (hs:Nat→Gu) (q:Nat→Bool) (K:FuncId) (w:World) (n1:s.n≤9223372036854775807) (n2:t.n≤9223372036854775807) (hl:ListC w 7 s.p s.n (fun k=>(gs k).cells)) (hm:ListC w 7 t.p t.n (fun k=>(hs k).cells))
  (he:∀ args w,(callFunc K args).run Tryz.prog w=.ok (.enter K args) w) (hf:∀ k,k<s.n→k<t.n→∀ w',Below w.heap.size w w'→Calls Tryz.prog K #[(gs k).v,(hs k).v] w' fun e w''=>e=.returned (.bool (q k))∧Below w'.heap.size w' w''):
  Calls Tryz.prog 129 #[s.v,t.v,.func (.func K) #[] #[]] w fun e w'=>e=.returned (.bool (equalN s.n t.n q))∧Below w.heap.size w w':=by
 obtain⟨sp,sn,sc⟩:=s
 obtain⟨tp,tn,tc⟩:=t
 dsimp only at n1 n2 hl hm hf ⊢
 dsimp only[Sl.v]
 obtain⟨b,o,hp,hc⟩:=hl.ex
 obtain⟨b',o',hp',hc'⟩:=hm.ex
 have HP:=Lib.hid hp
 have HC:=Lib.hid hc
 have HP':=Lib.hid hp'
 have HD:=Lib.hid hc'
 have HF:=Lib.hid hf
 clear hp hc hp' hc' hl hm hf
 have hL:=Loc.start w
 go_enter Tryz.func129,Tryz.ntmps129
 by_cases hne:sn=tn
 case neg=>
  have HX:=Lib.hid (show equalN sn tn q=false from equalN_len hne)
  have k0:((sn:Int) != (tn:Int))=true:=by simp;omega
  clear hne
  go_wp2_with (first|(with_reducible first|refine lld hL ?_|((first|refine lbx hL ?_|refine lal hL ?_|refine lbs hL ?_);clear hL;intro bl w1 hL)|(refine lst' hL ?_;clear hL;intro w1 hL)))
  (try simp only[Exit.inBlock,Exit.then]);refine rt1 ?_
  exact⟨by rw[HX.out];rfl,hL.below⟩
 subst hne
 go_wp2_with (first|(with_reducible first|refine lld hL ?_|((first|refine lbx hL ?_|refine lal hL ?_|refine lbs hL ?_);clear hL;intro bl w1 hL)|(refine lst' hL ?_;clear hL;intro w1 hL)))
 go_loopw [17] (fun x wr=>∃ k:Nat,k≤sn∧x=.int .i64 k∧(∀ j,j<k→q j=true)∧Loc w wr [] []) (fun x _=>sn - (intOf x).toNat)
 case atStart=>exact⟨0,Nat.zero_le _,rfl,fun j hj=>absurd hj (by omega),hL⟩
 case round=>
  obtain⟨k,hk,rfl,hq,hL⟩:=hrel
  have HQ:=Lib.hid hq
  clear hq
  by_cases hlt:k<sn
  ·obtain rfl:=HP.out (by omega)
   obtain rfl:=HP'.out (by omega)
   have hr1:=ReadsAt.agg (P:=Tryz.prog) tGuess (HC.out k hlt).1 (HC.out k hlt).2 rfl
   have hr2:=ReadsAt.agg (P:=Tryz.prog) tGuess (HD.out k hlt).1 (HD.out k hlt).2 rfl
   have hk2:=HF.out k hlt hlt
   cases hqk:q k with
   | false=>
    rw[hqk]at hk2
    have HA:=Lib.hid (show equalN sn sn q=false from equalN_no hlt hqk)
    clear hqk
    generalize gs k=g at hr1 hk2
    generalize hs k=h at hr2 hk2
    obtain⟨gl,⟨gn,glo,ghi⟩,gt,gf,⟨gp,gk,gc⟩⟩:=g
    obtain⟨hl,⟨hn,hlo,hhi⟩,ht,hf,⟨hp,hk9,hc⟩⟩:=h
    try dsimp only at hr1 hr2 hk2
    have HR1:=Lib.hid hr1
    have HR2:=Lib.hid hr2
    have HK2:=Lib.hid hk2
    clear hr1 hr2 hk2
    go_wp2_with (first|(with_reducible first|refine lld hL ?_|((first|refine lbx hL ?_|refine lal hL ?_|refine lbs hL ?_);clear hL;intro bl w1 hL)|(refine lst' hL ?_;clear hL;intro w1 hL))|(refine loc_loadB HR1.out hL (by exact cWant) rfl ?_)|(refine loc_loadB HR2.out hL (by exact cWant) rfl ?_)|((with_reducible refine(HK2.out _ hL.below).mono ?_);rintro e w1 ⟨rfl,hb⟩;replace hL:=hL.grow hb;clear hb;dsimp only))
    (try simp only[Exit.inBlock,Exit.then]);refine rt1 ?_
    exact⟨by rw[HA.out];rfl,hL.below⟩
   | true=>
    rw[hqk]at hk2
    have HA:=Lib.hid hqk
    clear hqk
    generalize gs k=g at hr1 hk2
    generalize hs k=h at hr2 hk2
    obtain⟨gl,⟨gn,glo,ghi⟩,gt,gf,⟨gp,gk,gc⟩⟩:=g
    obtain⟨hl,⟨hn,hlo,hhi⟩,ht,hf,⟨hp,hk9,hc⟩⟩:=h
    try dsimp only at hr1 hr2 hk2
    have HR1:=Lib.hid hr1
    have HR2:=Lib.hid hr2
    have HK2:=Lib.hid hk2
    clear hr1 hr2 hk2
    go_wp2_with (first|(with_reducible first|refine lld hL ?_|((first|refine lbx hL ?_|refine lal hL ?_|refine lbs hL ?_);clear hL;intro bl w1 hL)|(refine lst' hL ?_;clear hL;intro w1 hL))|(refine loc_loadB HR1.out hL (by exact cWant) rfl ?_)|(refine loc_loadB HR2.out hL (by exact cWant) rfl ?_)|((with_reducible refine(HK2.out _ hL.below).mono ?_);rintro e w1 ⟨rfl,hb⟩;replace hL:=hL.grow hb;clear hb;dsimp only))
    go_roundw
    case rel=>
     refine⟨k+1,by omega,by go_num,fun j hj=>?_,hL.drop (List.nil_sublist _) (fun _ h=>h)⟩
     rcases Nat.lt_or_ge j k with h|h
     ·exact HQ.out j h
     ·obtain rfl:j=k:=by omega
      exact HA.out
    case measure=>simp[intOf];omega
  ·obtain rfl:k=sn:=by omega
   go_wp2_with (first|(with_reducible first|refine lld hL ?_|((first|refine lbx hL ?_|refine lal hL ?_|refine lbs hL ?_);clear hL;intro bl w1 hL)|(refine lst' hL ?_;clear hL;intro w1 hL)))
   (try simp only[Exit.inBlock,Exit.then]);refine rt1 ?_
   exact⟨by rw[equalN_all HQ.out];rfl,hL.below⟩
theorem equalGV (s t:Sl) (gs:Nat→Gu) (hs:Nat→Vl) (q:Nat→Bool) (K:FuncId) (c0:Value) (w:World) (n1:s.n≤9223372036854775807) (n2:t.n≤9223372036854775807) (hl:ListC w 7 s.p s.n (fun k=>(gs k).cells)) (hm:ListC w 2 t.p t.n (fun k=>(hs k).cells))
  (he:∀ args w,(callFunc K args).run Tryz.prog w=.ok (.enter K args) w) (hf:∀ k,k<s.n→k<t.n→∀ w',Below w.heap.size w w'→Calls Tryz.prog K #[(gs k).v,(hs k).v,c0] w' fun e w''=>e=.returned (.bool (q k))∧Below w'.heap.size w' w''):
  Calls Tryz.prog 114 #[s.v,t.v,.func (.func K) #[] #[c0]] w fun e w'=>e=.returned (.bool (equalN s.n t.n q))∧Below w.heap.size w w':=by
 obtain⟨sp,sn,sc⟩:=s
 obtain⟨tp,tn,tc⟩:=t
 dsimp only at n1 n2 hl hm hf ⊢
 dsimp only[Sl.v]
 obtain⟨b,o,hp,hc⟩:=hl.ex
 obtain⟨b',o',hp',hc'⟩:=hm.ex
 have HP:=Lib.hid hp
 have HC:=Lib.hid hc
 have HP':=Lib.hid hp'
 have HD:=Lib.hid hc'
 have HF:=Lib.hid hf
 clear hp hc hp' hc' hl hm hf
 have hL:=Loc.start w
 go_enter Tryz.func114,Tryz.ntmps114
 by_cases hne:sn=tn
 case neg=>
  have HX:=Lib.hid (show equalN sn tn q=false from equalN_len hne)
  have k0:((sn:Int) != (tn:Int))=true:=by simp;omega
  clear hne
  go_wp2_with (first|(with_reducible first|refine lld hL ?_|((first|refine lbx hL ?_|refine lal hL ?_|refine lbs hL ?_);clear hL;intro bl w1 hL)|(refine lst' hL ?_;clear hL;intro w1 hL)))
  (try simp only[Exit.inBlock,Exit.then]);refine rt1 ?_
  exact⟨by rw[HX.out];rfl,hL.below⟩
 subst hne
 go_wp2_with (first|(with_reducible first|refine lld hL ?_|((first|refine lbx hL ?_|refine lal hL ?_|refine lbs hL ?_);clear hL;intro bl w1 hL)|(refine lst' hL ?_;clear hL;intro w1 hL)))
 go_loopw [17] (fun x wr=>∃ k:Nat,k≤sn∧x=.int .i64 k∧(∀ j,j<k→q j=true)∧Loc w wr [] []) (fun x _=>sn - (intOf x).toNat)
 case atStart=>exact⟨0,Nat.zero_le _,rfl,fun j hj=>absurd hj (by omega),hL⟩
 case round=>
  obtain⟨k,hk,rfl,hq,hL⟩:=hrel
  have HQ:=Lib.hid hq
  clear hq
  by_cases hlt:k<sn
  ·obtain rfl:=HP.out (by omega)
   obtain rfl:=HP'.out (by omega)
   have hr1:=ReadsAt.agg (P:=Tryz.prog) tGuess (HC.out k hlt).1 (HC.out k hlt).2 rfl
   have hr2:=ReadsAt.agg (P:=Tryz.prog) tValue (HD.out k hlt).1 (HD.out k hlt).2 rfl
   have hk2:=HF.out k hlt hlt
   cases hqk:q k with
   | false=>
    rw[hqk]at hk2
    have HA:=Lib.hid (show equalN sn sn q=false from equalN_no hlt hqk)
    clear hqk
    generalize gs k=g at hr1 hk2
    generalize hs k=h at hr2 hk2
    obtain⟨gl,⟨gn,glo,ghi⟩,gt,gf,⟨gp,gk,gc⟩⟩:=g
    obtain⟨vk,vn⟩:=h
    try dsimp only at hr1 hr2 hk2
    have HR1:=Lib.hid hr1
    have HR2:=Lib.hid hr2
    have HK2:=Lib.hid hk2
    clear hr1 hr2 hk2
    go_wp2_with (first|(with_reducible first|refine lld hL ?_|((first|refine lbx hL ?_|refine lal hL ?_|refine lbs hL ?_);clear hL;intro bl w1 hL)|(refine lst' hL ?_;clear hL;intro w1 hL))|(refine loc_loadB HR1.out hL (by exact cWant) rfl ?_)|(refine loc_loadB HR2.out hL (by exact cWant) rfl ?_)|((with_reducible refine(HK2.out _ hL.below).mono ?_);rintro e w1 ⟨rfl,hb⟩;replace hL:=hL.grow hb;clear hb;dsimp only))
    (try simp only[Exit.inBlock,Exit.then]);refine rt1 ?_
    exact⟨by rw[HA.out];rfl,hL.below⟩
   | true=>
    rw[hqk]at hk2
    have HA:=Lib.hid hqk
    clear hqk
    generalize gs k=g at hr1 hk2
    generalize hs k=h at hr2 hk2
    obtain⟨gl,⟨gn,glo,ghi⟩,gt,gf,⟨gp,gk,gc⟩⟩:=g
    obtain⟨vk,vn⟩:=h
    try dsimp only at hr1 hr2 hk2
    have HR1:=Lib.hid hr1
    have HR2:=Lib.hid hr2
    have HK2:=Lib.hid hk2
    clear hr1 hr2 hk2
    go_wp2_with (first|(with_reducible first|refine lld hL ?_|((first|refine lbx hL ?_|refine lal hL ?_|refine lbs hL ?_);clear hL;intro bl w1 hL)|(refine lst' hL ?_;clear hL;intro w1 hL))|(refine loc_loadB HR1.out hL (by exact cWant) rfl ?_)|(refine loc_loadB HR2.out hL (by exact cWant) rfl ?_)|((with_reducible refine(HK2.out _ hL.below).mono ?_);rintro e w1 ⟨rfl,hb⟩;replace hL:=hL.grow hb;clear hb;dsimp only))
    go_roundw
    case rel=>
     refine⟨k+1,by omega,by go_num,fun j hj=>?_,hL.drop (List.nil_sublist _) (fun _ h=>h)⟩
     rcases Nat.lt_or_ge j k with h|h
     ·exact HQ.out j h
     ·obtain rfl:j=k:=by omega
      exact HA.out
    case measure=>simp[intOf];omega
  ·obtain rfl:k=sn:=by omega
   go_wp2_with (first|(with_reducible first|refine lld hL ?_|((first|refine lbx hL ?_|refine lal hL ?_|refine lbs hL ?_);clear hL;intro bl w1 hL)|(refine lst' hL ?_;clear hL;intro w1 hL)))
   (try simp only[Exit.inBlock,Exit.then]);refine rt1 ?_
   exact⟨by rw[equalN_all HQ.out];rfl,hL.below⟩
theorem equalRR (s t:Sl) (gs:Nat→Sl) (hs:Nat→Sl) (q:Nat→Bool) (K:FuncId) (w:World) (n1:s.n≤9223372036854775807) (n2:t.n≤9223372036854775807) (hl:ListC w 1 s.p s.n (fun k=>(gs k).row)) (hm:ListC w 1 t.p t.n (fun k=>(hs k).row))
  (he:∀ args w,(callFunc K args).run Tryz.prog w=.ok (.enter K args) w) (hf:∀ k,k<s.n→k<t.n→∀ w',Below w.heap.size w w'→Calls Tryz.prog K #[(gs k).v,(hs k).v] w' fun e w''=>e=.returned (.bool (q k))∧Below w'.heap.size w' w''):
  Calls Tryz.prog 131 #[s.v,t.v,.func (.func K) #[] #[]] w fun e w'=>e=.returned (.bool (equalN s.n t.n q))∧Below w.heap.size w w':=by
 obtain⟨sp,sn,sc⟩:=s
 obtain⟨tp,tn,tc⟩:=t
 dsimp only at n1 n2 hl hm hf ⊢
 dsimp only[Sl.v]
 obtain⟨b,o,hp,hc⟩:=hl.ex
 obtain⟨b',o',hp',hc'⟩:=hm.ex
 have HP:=Lib.hid hp
 have HC:=Lib.hid hc
 have HP':=Lib.hid hp'
 have HD:=Lib.hid hc'
 have HF:=Lib.hid hf
 clear hp hc hp' hc' hl hm hf
 have hL:=Loc.start w
 go_enter Tryz.func131,Tryz.ntmps131
 by_cases hne:sn=tn
 case neg=>
  have HX:=Lib.hid (show equalN sn tn q=false from equalN_len hne)
  have k0:((sn:Int) != (tn:Int))=true:=by simp;omega
  clear hne
  go_wp2_with (first|(with_reducible first|refine lld hL ?_|((first|refine lbx hL ?_|refine lal hL ?_|refine lbs hL ?_);clear hL;intro bl w1 hL)|(refine lst' hL ?_;clear hL;intro w1 hL)))
  (try simp only[Exit.inBlock,Exit.then]);refine rt1 ?_
  exact⟨by rw[HX.out];rfl,hL.below⟩
 subst hne
 go_wp2_with (first|(with_reducible first|refine lld hL ?_|((first|refine lbx hL ?_|refine lal hL ?_|refine lbs hL ?_);clear hL;intro bl w1 hL)|(refine lst' hL ?_;clear hL;intro w1 hL)))
 go_loopw [17] (fun x wr=>∃ k:Nat,k≤sn∧x=.int .i64 k∧(∀ j,j<k→q j=true)∧Loc w wr [] []) (fun x _=>sn - (intOf x).toNat)
 case atStart=>exact⟨0,Nat.zero_le _,rfl,fun j hj=>absurd hj (by omega),hL⟩
 case round=>
  obtain⟨k,hk,rfl,hq,hL⟩:=hrel
  have HQ:=Lib.hid hq
  clear hq
  by_cases hlt:k<sn
  ·obtain rfl:=HP.out (by omega)
   obtain rfl:=HP'.out (by omega)
   have hr1:=readRow (HC.out k hlt).1 (HC.out k hlt).2
   have hr2:=readRow (HD.out k hlt).1 (HD.out k hlt).2
   have hk2:=HF.out k hlt hlt
   cases hqk:q k with
   | false=>
    rw[hqk]at hk2
    have HA:=Lib.hid (show equalN sn sn q=false from equalN_no hlt hqk)
    clear hqk
    generalize gs k=g at hr1 hk2
    generalize hs k=h at hr2 hk2
    obtain⟨gp,gk,gc⟩:=g
    obtain⟨hp,hk9,hc⟩:=h
    try dsimp only at hr1 hr2 hk2
    have HR1:=Lib.hid hr1
    have HR2:=Lib.hid hr2
    have HK2:=Lib.hid hk2
    clear hr1 hr2 hk2
    go_wp2_with (first|(with_reducible first|refine lld hL ?_|((first|refine lbx hL ?_|refine lal hL ?_|refine lbs hL ?_);clear hL;intro bl w1 hL)|(refine lst' hL ?_;clear hL;intro w1 hL))|(refine loc_loadB HR1.out hL (by exact cWant) rfl ?_)|(refine loc_loadB HR2.out hL (by exact cWant) rfl ?_)|((with_reducible refine(HK2.out _ hL.below).mono ?_);rintro e w1 ⟨rfl,hb⟩;replace hL:=hL.grow hb;clear hb;dsimp only))
    (try simp only[Exit.inBlock,Exit.then]);refine rt1 ?_
    exact⟨by rw[HA.out];rfl,hL.below⟩
   | true=>
    rw[hqk]at hk2
    have HA:=Lib.hid hqk
    clear hqk
    generalize gs k=g at hr1 hk2
    generalize hs k=h at hr2 hk2
    obtain⟨gp,gk,gc⟩:=g
    obtain⟨hp,hk9,hc⟩:=h
    try dsimp only at hr1 hr2 hk2
    have HR1:=Lib.hid hr1
    have HR2:=Lib.hid hr2
    have HK2:=Lib.hid hk2
    clear hr1 hr2 hk2
    go_wp2_with (first|(with_reducible first|refine lld hL ?_|((first|refine lbx hL ?_|refine lal hL ?_|refine lbs hL ?_);clear hL;intro bl w1 hL)|(refine lst' hL ?_;clear hL;intro w1 hL))|(refine loc_loadB HR1.out hL (by exact cWant) rfl ?_)|(refine loc_loadB HR2.out hL (by exact cWant) rfl ?_)|((with_reducible refine(HK2.out _ hL.below).mono ?_);rintro e w1 ⟨rfl,hb⟩;replace hL:=hL.grow hb;clear hb;dsimp only))
    go_roundw
    case rel=>
     refine⟨k+1,by omega,by go_num,fun j hj=>?_,hL.drop (List.nil_sublist _) (fun _ h=>h)⟩
     rcases Nat.lt_or_ge j k with h|h
     ·exact HQ.out j h
     ·obtain rfl:j=k:=by omega
      exact HA.out
    case measure=>simp[intOf];omega
  ·obtain rfl:k=sn:=by omega
   go_wp2_with (first|(with_reducible first|refine lld hL ?_|((first|refine lbx hL ?_|refine lal hL ?_|refine lbs hL ?_);clear hL;intro bl w1 hL)|(refine lst' hL ?_;clear hL;intro w1 hL)))
   (try simp only[Exit.inBlock,Exit.then]);refine rt1 ?_
   exact⟨by rw[equalN_all HQ.out];rfl,hL.below⟩
theorem enterP1:∀ args w,(callFunc 123 args).run Tryz.prog w=.ok (.enter 123 args) w:=fun args w=>by kernel_rfl
theorem enterP2:∀ args w,(callFunc 126 args).run Tryz.prog w=.ok (.enter 126 args) w:=fun args w=>by kernel_rfl
theorem pright1_any (f:Int) (s:Sl) (b:Nat) (w:World) (hn:s.n≤9223372036854775807) (hr:ReadsAt Tryz.prog 3 w b 1 (.int .i64 f)):
  Calls Tryz.prog 123 #[s.v,.pointer (some ⟨b,0,none⟩)] w fun e w'=>e=.returned (.bool ((s.n:Int) != f))∧Below w.heap.size w w':=by
 obtain⟨sp,sn,sc⟩:=s
 dsimp only at hn
 have hL:=Loc.start w
 go_enter Tryz.func123,Tryz.ntmps123
 go_wp2_with (first|(with_reducible first|refine lld hL ?_|((first|refine lbx hL ?_|refine lal hL ?_|refine lbs hL ?_);clear hL;intro bl w1 hL)|(refine lst' hL ?_;clear hL;intro w1 hL))|(refine loc_loadB hr hL rfl rfl ?_))
 (try simp only[Exit.inBlock,Exit.then]);refine rt1 ?_
 exact⟨rfl,hL.below⟩
theorem pright2_any (d:Res) (s:Sl) (hs:s.n=d.l.length) (w:World):
  Calls Tryz.prog 126 #[(d.gu s).v] w fun e w'=>e=.returned (.bool (!emptyD d))∧Below w.heap.size w w':=by
 have HE:=Lib.hid (fun w'=>empty_any (d.gu s) w')
 rw[emptyD_gu hs]at HE
 generalize emptyD d=x at HE ⊢
 clear hs
 obtain⟨nl,⟨sn,lo,hi⟩,tr,fa,l⟩:=d
 obtain⟨sp,sc,scap⟩:=s
 dsimp only[Res.gu]at HE ⊢
 have hL:=Loc.start w
 go_enter Tryz.func126,Tryz.ntmps126
 go_wp2_with (first|(with_reducible first|refine lld hL ?_|((first|refine lbx hL ?_|refine lal hL ?_|refine lbs hL ?_);clear hL;intro bl w1 hL)|(refine lst' hL ?_;clear hL;intro w1 hL))|(go_at_call 127;refine(HE.out _).mono ?_;rintro e w1 ⟨rfl,hb⟩;replace hL:=hL.grow hb;clear hb;dsimp only))
 (try simp only[Exit.inBlock,Exit.then]);refine rt1 ?_
 exact⟨rfl,hL.below⟩
theorem pfull_any (s:Sl) (ds:List Res) (w:World) (h:RowIs w s ds):
  Calls Tryz.prog 125 #[s.v,.func (.func 126) #[] #[]] w fun e w'=>e=.returned (.bool (fullD ds))∧Below w.heap.size w w':=by
 obtain⟨ss,h1,h2⟩:=h.ex
 have h3:=containsGuesses s.p s.n s.cap (fun k=>((ds.getD k zeroD).gu (ss k)).v) (fun k=>!emptyD (ds.getD k zeroD)) 126 w h.m (h1.agg tGuess (fun k=>rfl)) ⟨enterP2,fun k hk w' _=>pright2_any (ds.getD k zeroD) (ss k) (h2 k hk).n w'⟩
 rw[show anyN (fun k=>!emptyD (ds.getD k zeroD)) s.n=fullD ds by rw[h.n];rfl]at h3
 exact h3
theorem none_right (p:Pg) (is:Nat→Ins) (vs:List Res) (fs:List (List Res)):rightP p is ⟨true,vs,fs⟩=if 0<vs.length+fs.length then 1 else 0:=if_pos rfl
theorem picRight_none (p:Pg) (is:Nat→Ins) (sv sf:Sl) (vs:List Res) (fs:List (List Res)) (w:World) (h1:sv.n=vs.length) (h2:sf.n=fs.length) (hm:sv.n+sf.n≤9223372036854775807):
  Calls Tryz.prog 62 #[p.v,Pv.v ⟨true,sv,sf⟩] w fun e w'=>e=.returned (.int .i64 (rightP p is ⟨true,vs,fs⟩))∧Below w.heap.size w w':=by
 rw[none_right,← h1,← h2]
 obtain⟨vp,vn,vc⟩:=sv
 obtain⟨fp,fn,fc⟩:=sf
 dsimp only at hm ⊢
 clear h1 h2
 have hL:=Loc.start w
 go_enter Tryz.func62,Tryz.ntmps62
 by_cases h0:0<vn+fn
 ·have k0:decide ((0:Int)<(vn:Int)+(fn:Int))=true:=decide_eq_true (by omega)
  rw[if_pos h0]
  go_wp2_with (first|(with_reducible first|refine lld hL ?_|((first|refine lbx hL ?_|refine lal hL ?_|refine lbs hL ?_);clear hL;intro bl w1 hL)|(refine lst' hL ?_;clear hL;intro w1 hL)))
  (try simp only[Exit.inBlock,Exit.then]);refine rt1 ?_
  exact⟨rfl,hL.below⟩
 ·have k0:decide ((0:Int)<(vn:Int)+(fn:Int))=false:=decide_eq_false (by omega)
  rw[if_neg h0]
  go_wp2_with (first|(with_reducible first|refine lld hL ?_|((first|refine lbx hL ?_|refine lal hL ?_|refine lbs hL ?_);clear hL;intro bl w1 hL)|(refine lst' hL ?_;clear hL;intro w1 hL)))
  (try simp only[Exit.inBlock,Exit.then]);refine rt1 ?_
  exact⟨rfl,hL.below⟩
theorem Loc.rot {w0 w:World}{e:LBlk}{L:List LBlk}{D:List Datum}(h:Loc w0 w (e::L) D):Loc w0 w (L++[e]) D:=h.perm (List.perm_append_comm (l₁:=L) (l₂:=[e]))
theorem RowS.at1 {E g n cap k:Nat}{cs:List Value}{p:Option Addr}{l:List Sl}(h:RowS E 1 p n cap (l.flatMap Sl.row) [(g,E,cs)]) (hk:k<n):cs[k]? = some (l.getD k nilSl).v:=by
 have h1:=h.elem (f:=Sl.row) (fun _=>rfl) nilSl hk
 rw[Nat.mul_one]at h1
 have h2:((cs.drop k).take 1)[0]? = some (l.getD k nilSl).v:=by rw[h1];rfl
 rw[List.getElem?_take,if_pos (by decide),List.getElem?_drop,Nat.add_zero]at h2
 exact h2
theorem rows_list {w:World}{p:Option Addr}{n:Nat}{rs:Nat→Sl}(h:ListC w 1 p n (fun k=>[.slice (rs k).p (rs k).n (rs k).cap])):ListAt Tryz.prog 51 1 w p n (fun k=>(rs k).v):=by
 obtain⟨b,o,h1,h2⟩:=h.ex
 refine⟨b,o,h1,fun k hk=>?_⟩
 have h3:=ReadsAt.cell (P:=Tryz.prog) tGuesses (h2 k hk).1 ((h2 k hk).2 0 _ rfl)
 rwa [Nat.add_zero]at h3
theorem rows_news {w:World}{p:Option Addr}{n:Nat}{rs:Nat→Sl}(h:ListC w 1 p n (fun k=>[.slice (rs k).p (rs k).n (rs k).cap])):0<n→∃ ad,p=some ad∧∀ j u,(((List.range n).map rs).flatMap Sl.row)[j]? = some u→w.cell? (ad.add j)=some u:=
 ListC.news (f:=Sl.row) (fun _=>rfl) (d:=nilSl) (l:=(List.range n).map rs) (h.congr fun k hk=>by rw[getD_map_range _ _ _ _ hk]) (by simp)
theorem oneRow {l:List Sl}:∀ u∈l.flatMap Sl.row,u.oneCell'=true:=by
 intro u hu
 obtain⟨x,_,hx⟩:=List.mem_flatMap.1 hu
 simp only[Sl.row,List.mem_cons,List.not_mem_nil,or_false]at hx
 subst hx;rfl
theorem rows_all {w:World}{sv:Sl}{vs:List Res}{fs:List (List Res)}{rs:Nat→Sl}(hv:RowIs w sv vs) (hr:∀ k,k<fs.length→RowIs w (rs k) (fs.getD k [])) (k:Nat) (hk:k<1+fs.length):
  RowIs w ((sv::(List.range fs.length).map rs).getD k nilSl) ((vs::fs).getD k []):=by
 cases k with
 | zero=>exact hv
 | succ k=>
  have h:=hr k (by omega)
  rw[List.getD_cons_succ,List.getD_cons_succ,getD_map_range _ _ _ _ (by omega)]
  exact h
theorem some_right (p:Pg) (is:Nat→Ins) (vs:List Res) (fs:List (List Res)):rightP p is ⟨false,vs,fs⟩=if lensD p ⟨false,vs,fs⟩=true then 1 else if rowsE p is (vs::fs)≠0 then rowsE p is (vs::fs) else if strayD p is fs=true then 4 else 0:=if_neg (show ¬ (false=true) by decide)
theorem rows_found {p:Pg}{is:Nat→Ins}{L:List (List Res)}{k j:Nat}{r:Int}(hk:k<L.length) (h:firstE ((L.take k).map (rowE p is))=0) (h2:firstE (((L.getD k []).take j).map (rightD p is))=r) (hr:r≠0):rowsE p is L=r:=by
 have h3:rowE p is (L.getD k [])=r:=(firstE_found (rightD p is) _ (k:=j) (by rw[h2];exact hr)).trans h2
 have h4:=firstE_next (rowE p is) L [] hk h
 rw[h3]at h4
 exact(firstE_found (rowE p is) L (k:=k+1) (by rw[h4];exact hr)).trans h4
theorem picRight_some (p:Pg) (is:Nat→Ins) (sv sf:Sl) (vs:List Res) (fs:List (List Res)) (w:World) (hn:p.n≤60) (hc:CodeAt w p is) (hv:RowIs w sv vs) (hf:RowsIs w sf fs):
  Calls Tryz.prog 62 #[p.v,Pv.v ⟨false,sv,sf⟩] w fun e w'=>e=.returned (.int .i64 (rightP p is ⟨false,vs,fs⟩))∧Below w.heap.size w w':=by
 obtain⟨rs,hrl,hrr⟩:=hf.ex
 rw[hf.n]at hrr hrl
 have hfm:=hf.m
 have hvm:=hv.m
 have hfn:=hf.n
 have hvn:=hv.n
 have HALL:=Lib.hid (fun k (hk:k<1+fs.length)=>rows_all hv hrr k hk)
 have HNEW:=Lib.hid (fun w' (hb:Below w.heap.size w w')=>rows_news (hrl.grow hb))
 have HF:=Lib.hid (some_right p is vs fs)
 obtain⟨b4,o4,hp4,hc4⟩:=(rows_list hrl).ex
 have HP4:=Lib.hid hp4
 have HC4:=Lib.hid hc4
 have HFU:=Lib.hid (fun k (hk:k<fs.length) w' (hb:Below w.heap.size w w')=>pfull_any (rs k) (fs.getD k []) w' ((hrr k hk).grow hb))
 have HCD:=Lib.hid hc
 obtain⟨vp,vn,vc⟩:=sv
 obtain⟨fp,fn,fc⟩:=sf
 dsimp only at hfm hvm hfn hvn hrl hp4
 subst hfn hvn
 have HCT:=Lib.hid (fun (b:Nat) (w' : World) (hb:Below w.heap.size w w') (hrd:ReadsAt Tryz.prog 3 w' b 1 (.int .i64 p.fields))=>containsRows fp fs.length fc (fun k=>(rs k).v) (fun k=>((fs.getD k []).length:Int) != p.fields) 123 (.pointer (some ⟨b,0,none⟩)) w' hfm (rows_list (hrl.grow hb)) ⟨enterP1,fun k hk w2 hb2=>by
  have h1:=pright1_any p.fields (rs k) b w2 (hrr k hk).m (hrd.grow hb2)
  rw[(hrr k hk).n]at h1
  exact h1⟩)
 have HMX:=Lib.hid (And.intro hfm hvm)
 have HLD:=Lib.hid (show lensD p ⟨false,vs,fs⟩=((vs.length:Int) != p.vars || (fs.length:Int) != p.n || anyN (fun k=>((fs.getD k []).length:Int) != p.fields) fs.length) from rfl)
 clear hp4 hc4 hrl hrr hf hv hc
 generalize (fun k=>((fs.getD k []).length:Int) != p.fields)=q at HCT HLD
 have hL:=Loc.start w
 go_enter Tryz.func62,Tryz.ntmps62
 go_step
 go_step
 go_step
 ((with_reducible refine lbx hL ?_);clear hL;intro b2 w1 hL)
 ((with_reducible refine lbx hL ?_);clear hL;intro b3 w1 hL)
 go_upto_block 0 with(first|(with_reducible first|refine lld hL ?_|((first|refine lbx hL ?_|refine lal hL ?_|refine lbs hL ?_);clear hL;intro bl w1 hL)|(refine lst' hL ?_;clear hL;intro w1 hL)))
 go_cut [] from 5 (fun wc=>Loc w wc [(b3,54,[.bool false,.slice vp vs.length vc,.slice fp fs.length fc]),(b2,27,[.int .i64 p.vars,.int .i64 p.fields,.slice p.pc p.n p.cap])] []∧lensD p ⟨false,vs,fs⟩=false)
 case first=>
  go_upto_region 5 with(first|(with_reducible first|refine lld hL ?_|((first|refine lbx hL ?_|refine lal hL ?_|refine lbs hL ?_);clear hL;intro bl w1 hL)|(refine lst' hL ?_;clear hL;intro w1 hL)))
  refine seq_begin [24,25,26,27,28,29,30,31,32,33,34,35,36,37,38,39,40,41,42,43,44,23] ?_
  refine dv0 ?_
  refine dv1 0 ?_
  refine dv1 1 ?_
  refine dv0 ?_
  refine dv1 3 ?_
  refine dv2 2 4 ?_
  refine dv1 5 ?_
  refine dg0 6 ?_
  refine dg1 6 7 ?_
  refine dg1 6 8 ?_
  refine dg0 6 ?_
  refine dg1 6 10 ?_
  refine dg1 6 11 ?_
  refine dg2 6 9 12 ?_
  refine dpo 6 13 ?_
  refine dv1 14 ?_
  refine dg0 15 ?_
  refine dg1 15 16 ?_
  refine dg0 15 ?_
  refine' draw_guard (j:=15) rfl rfl rfl (by decide) (by simp) ?_ ?_;rotate_left
  ·intro hcs;simp only[Bool.and_eq_true,beqT,beqF]at hcs;intro g w hb V;replace hL:=hL.grow hb;have d17:=yv V 17;simp only[hcs,beq_self_eq_true,Bool.and_self,Bool.true_and,Bool.and_true,cnd_true]at d17;have d18:=yv V 18;simp only[hcs,beq_self_eq_true,Bool.and_self,Bool.true_and,Bool.and_true,cnd_true]at d18;clear V;simp only[fillD,fLa,fLb,sTa,sTb];simp only[d17,d18]
   go_wp2_with (go_at_call 122;refine(HCT.out b2 _ hL.below (hL.readsG (b:=b2) (Tv:=3) (off:=1) (v:=.int .i64 p.fields) cIn (Reads.cell tInt rfl))).mono ?_;rintro e w3 ⟨rfl,hb3⟩;dsimp only)
   exact⟨rfl,_,rfl,hb3,rfl⟩
  simp only[apN,apC]
  refine dpo 15 19 ?_
  refine dv1 20 ?_
  refine dns hL ?_
  clear hL;intro w2 hL;simp only[fillX,sTa,sTb]
  simp only[beq_false,Bool.not_or,Bool.not_not]
  cases h1:lensD p ⟨false,vs,fs⟩ with
  | true=>
   have h0:=h1
   rw[HLD.out]at h0
   simp only[h0]
   clear h0
   have HX:=Lib.hid (HF.out.trans (if_pos h1))
   clear h1
   go_wp2_with (first|(with_reducible first|refine lld hL ?_|((first|refine lbx hL ?_|refine lal hL ?_|refine lbs hL ?_);clear hL;intro bl w1 hL)|(refine lst' hL ?_;clear hL;intro w1 hL)))
   (try simp only[Exit.inBlock,Exit.then]);refine rt1 ?_
   exact⟨by rw[HX.out];rfl,hL.below⟩
  | false=>
   have h0:=h1
   rw[HLD.out]at h0
   simp only[h0]
   clear h0
   have HH1:=Lib.hid h1
   clear h1
   go_wp2_with (first|(with_reducible first|refine lld hL ?_|((first|refine lbx hL ?_|refine lal hL ?_|refine lbs hL ?_);clear hL;intro bl w1 hL)|(refine lst' hL ?_;clear hL;intro w1 hL)))
   go_meet
   case rel=>exact⟨hL,HH1.out⟩
 clear hL
 obtain⟨hL,h1⟩:=hcut
 have h0:=h1
 rw[HLD.out]at h0
 have hfp:fs.length=p.n:=by
  simp at h0
  omega
 clear h0
 have HF2:=Lib.hid (HF.out.trans (if_neg (by rw[h1];decide)))
 have HN:=Lib.hid (And.intro hfp hn)
 clear h1 hfp hn HF HLD HCT
 go_upto_block 1 with(first|(with_reducible first|refine lld hL ?_|((first|refine lbx hL ?_|refine lal hL ?_|refine lbs hL ?_);clear hL;intro bl w1 hL)|(refine lst' hL ?_;clear hL;intro w1 hL))|(refine loc_appendS (z:=[.slice none 0 0]) (E:=51) (K:=[(b3,_,_),(b2,_,_)]) (R:=[(bl,51,[.slice vp vs.length vc])]) (xs:=Sl.row ⟨vp,vs.length,vc⟩) (n:=1) (cap:=1) (p:=some ⟨bl,0,none⟩) (news:=((List.range fs.length).map rs).flatMap Sl.row) (RowS.full rfl (by decide)) hL.rot rfl rfl rfl sRows bRow (by decide) rfl (HNEW.out _ hL.below) (by rw[flat_len (f:=Sl.row) (es:=1) (fun _=>rfl),List.length_map,List.length_range];rfl) oneRow (by have:=HMX.out.1;have:=HN.out.1;have:=HN.out.2;have:maxLen=9223372036854775807:=rfl;omega) (by have:=HN.out.1;have:=HN.out.2;omega) ?_;clear hL;intro p7 cap7 R7 w4 hS7 hL))
 simp only[List.cons_append,List.nil_append]at hL
 have hS8:RowS 51 1 p7 (1+fs.length) cap7 ((⟨vp,vs.length,vc⟩::(List.range fs.length).map rs).flatMap Sl.row) R7:=hS7
 clear hS7
 obtain⟨g7,cs7,rfl,rfl,-,-⟩:=hS8.block (by omega)
 have HA:=Lib.hid (fun k (hk:k<1+fs.length)=>hS8.at1 hk)
 clear hS8 HNEW
 go_cut [] from 5 (fun wc=>Loc w wc [(b3,54,[.bool false,.slice vp vs.length vc,.slice fp fs.length fc]),(b2,27,[.int .i64 p.vars,.int .i64 p.fields,.slice p.pc p.n p.cap]),(g7,51,cs7)] []∧rowsE p is (vs::fs)=0)
 case first=>
  have hb60:fs.length≤60:=by have:=HN.out.1;have:=HN.out.2;omega
  go_wp2_with (first|(with_reducible first|refine lld hL ?_|((first|refine lbx hL ?_|refine lal hL ?_|refine lbs hL ?_);clear hL;intro bl w1 hL)|(refine lst' hL ?_;clear hL;intro w1 hL)))
  go_loopw [52] (fun c wr=>∃ k:Nat,k≤1+fs.length∧c=.int .i64 k∧firstE (((vs::fs).take k).map (rowE p is))=0∧Loc w wr [(b3,54,[.bool false,.slice vp vs.length vc,.slice fp fs.length fc]),(b2,27,[.int .i64 p.vars,.int .i64 p.fields,.slice p.pc p.n p.cap]),(g7,51,cs7)] []) (fun c _=>1+fs.length - (intOf c).toNat)
  case atStart=>exact⟨0,Nat.zero_le _,rfl,rfl,hL⟩
  case round=>
   obtain⟨k,hk,rfl,hq,hL⟩:=hrel
   have HQ:=Lib.hid hq
   clear hq
   by_cases hlt:k<1+fs.length
   ·have hrow:=HALL.out k hlt
    have hhd:=HA.out k hlt
    generalize hdk:(vs::fs).getD k []=dk at hrow
    have HDK:=Lib.hid hdk
    generalize (({ p:=vp,n:=vs.length,cap:=vc }:Sl)::List.map rs (List.range fs.length)).getD k nilSl=sk at hrow hhd
    obtain⟨ss,hcl,hsi⟩:=hrow.ex
    obtain⟨kb,ko,hkp,hkc⟩:=hcl.ex
    have hkn:=hrow.n
    have hkm:=hrow.m
    obtain⟨kp,kn,kc⟩:=sk
    dsimp only at hkn hkp hkc hhd hkm hsi
    subst hkn
    have HKP:=Lib.hid hkp
    have HKC:=Lib.hid hkc
    have HRD:=Lib.hid (show Reads Tryz.prog 51 cs7 k (.slice kp dk.length kc) from Reads.cell tGuesses hhd)
    have HG:=Lib.hid (fun j hj w' (hb:Below w.heap.size w w')=>gright_any p is ((dk.getD j zeroD).gu (ss j)) (dk.getD j zeroD).l w' (HCD.out.grow hb) ((hsi j hj).grow hb))
    clear hrow hcl hsi hkp hkc hhd hdk
    go_wp2_with (first|(with_reducible refine ldO HRD.out hL ?_)|(with_reducible first|refine lld hL ?_|((first|refine lbx hL ?_|refine lal hL ?_|refine lbs hL ?_);clear hL;intro bl w1 hL)|(refine lst' hL ?_;clear hL;intro w1 hL)))
    go_loopw [58] (fun c wr=>∃ j:Nat,j≤dk.length∧c=.int .i64 j∧firstE ((dk.take j).map (rightD p is))=0∧Loc w wr [(b3,54,[.bool false,.slice vp vs.length vc,.slice fp fs.length fc]),(b2,27,[.int .i64 p.vars,.int .i64 p.fields,.slice p.pc p.n p.cap]),(g7,51,cs7)] []) (fun c _=>dk.length - (intOf c).toNat)
    case atStart=>exact⟨0,Nat.zero_le _,rfl,rfl,hL⟩
    case round=>
     obtain⟨j,hj,rfl,hq,hL⟩:=hrel
     have HQ2:=Lib.hid hq
     clear hq
     by_cases hlt2:j<dk.length
     ·obtain rfl:=HKP.out (by omega)
      clear HKP
      have hr:=ReadsAt.agg (P:=Tryz.prog) tGuess (HKC.out j hlt2).1 (HKC.out j hlt2).2 rfl
      have hg1:∀ w',Below w.heap.size w w'→Calls Tryz.prog 124 #[p.v,((dk.getD j zeroD).gu (ss j)).v] w' fun e w2=>e=.returned (.int .i64 (rightD p is (dk.getD j zeroD)))∧Below w'.heap.size w' w2:=HG.out j hlt2
      have he:=firstE_next (rightD p is) dk zeroD hlt2 HQ2.out
      generalize dk.getD j zeroD=d at hr hg1 he
      generalize ss j=sj at hr hg1
      generalize rightD p is d=r at hg1 he
      obtain⟨nl,⟨sn,lo,hi⟩,tr,fa,l⟩:=d
      obtain⟨sp,sc,scap⟩:=sj
      dsimp only[Res.gu]at hr hg1
      have HR:=Lib.hid hr
      have HG1:=Lib.hid hg1
      have HE:=Lib.hid he
      clear hr hg1 he
      by_cases h1:r=0
      case neg=>
       have k1:(r != 0)=true:=by simpa using h1
       have hx:rowsE p is (vs::fs)=r:=rows_found (k:=k) (j:=j+1) (by simpa [Nat.add_comm] using hlt) HQ.out (by rw[HDK.out];exact HE.out) h1
       have HX:=Lib.hid (show rightP p is ⟨false,vs,fs⟩=r by rw[HF2.out,hx];exact if_pos h1)
       clear h1 hx
       go_wp2_with (first|(with_reducible refine ldB HR.out hL ?_)|(with_reducible first|refine lld hL ?_|((first|refine lbx hL ?_|refine lal hL ?_|refine lbs hL ?_);clear hL;intro bl w1 hL)|(refine lst' hL ?_;clear hL;intro w1 hL))|(go_at_call 124;refine(HG1.out _ hL.below).mono ?_;rintro e w1 ⟨rfl,hb⟩;replace hL:=hL.grow hb;clear hb;dsimp only))
       (try simp only[Exit.inBlock,Exit.then]);refine rt1 ?_
       exact⟨by rw[HX.out];rfl,hL.below⟩
      subst h1
      go_wp2_with (first|(with_reducible refine ldB HR.out hL ?_)|(with_reducible first|refine lld hL ?_|((first|refine lbx hL ?_|refine lal hL ?_|refine lbs hL ?_);clear hL;intro bl w1 hL)|(refine lst' hL ?_;clear hL;intro w1 hL))|(go_at_call 124;refine(HG1.out _ hL.below).mono ?_;rintro e w1 ⟨rfl,hb⟩;replace hL:=hL.grow hb;clear hb;dsimp only))
      go_roundw
      case rel=>exact⟨j+1,by omega,by go_num,HE.out,hL.drop (List.sublist_cons_self _ _) (fun _ h=>h)⟩
      case measure=>simp[intOf];omega
     ·obtain rfl:j=dk.length:=by omega
      have hrow0:rowE p is dk=0:=by
       have:=HQ2.out
       rwa [List.take_length]at this
      have HN2:=Lib.hid (show firstE (((vs::fs).take (k+1)).map (rowE p is))=0 by rw[firstE_next (rowE p is) (vs::fs) [] (by simpa [Nat.add_comm] using hlt) HQ.out,HDK.out];exact hrow0)
      clear hrow0 HQ2
      go_wp2_with (first|(with_reducible first|refine lld hL ?_|((first|refine lbx hL ?_|refine lal hL ?_|refine lbs hL ?_);clear hL;intro bl w1 hL)|(refine lst' hL ?_;clear hL;intro w1 hL)))
      go_roundw
      case rel=>exact⟨k+1,by omega,by go_num,HN2.out,hL⟩
      case measure=>simp[intOf];omega
   ·obtain rfl:k=1+fs.length:=by omega
    have h0:rowsE p is (vs::fs)=0:=by
     have h1:=HQ.out
     rwa [List.take_of_length_le (by simp;omega)]at h1
    clear HQ
    go_wp2_with (first|(with_reducible first|refine lld hL ?_|((first|refine lbx hL ?_|refine lal hL ?_|refine lbs hL ?_);clear hL;intro bl w1 hL)|(refine lst' hL ?_;clear hL;intro w1 hL)))
    go_meet
    case rel=>exact⟨hL,h0⟩
 clear hL
 obtain⟨hL,h0⟩:=hcut
 have HF3:=Lib.hid (HF2.out.trans (if_neg (by rw[h0];simp)))
 clear h0 HF2 HA
 go_wp2_with (first|(with_reducible first|refine lld hL ?_|((first|refine lbx hL ?_|refine lal hL ?_|refine lbs hL ?_);clear hL;intro bl w1 hL)|(refine lst' hL ?_;clear hL;intro w1 hL)))
 go_loopw [73] (fun c wr=>∃ k:Nat,k≤fs.length∧c=.int .i64 k∧(∀ j,j<k→(!isSite p is j&&fullD (fs.getD j []))=false)∧Loc w wr [(b3,54,[.bool false,.slice vp vs.length vc,.slice fp fs.length fc]),(b2,27,[.int .i64 p.vars,.int .i64 p.fields,.slice p.pc p.n p.cap]),(g7,51,cs7)] []) (fun c _=>fs.length - (intOf c).toNat)
 case atStart=>exact⟨0,Nat.zero_le _,rfl,fun j hj=>absurd hj (by omega),hL⟩
 case round=>
  obtain⟨k,hk,rfl,hq,hL⟩:=hrel
  have HQ:=Lib.hid hq
  clear hq
  by_cases hlt:k<fs.length
  ·obtain rfl:=HP4.out (by omega)
   clear HP4
   have hr:=HC4.out k hlt
   rw[Nat.mul_one]at hr
   have hfu:=HFU.out k hlt
   have his:=fun w' (hb:Below w.heap.size w w')=>isSite_any p is k w' (HCD.out.grow hb)
   generalize rs k=s at hr hfu
   have HY:=Lib.hid (fun (h:(!isSite p is k&&fullD (fs.getD k []))=true)=>anyN_yes (q:=fun j=>!isSite p is j&&fullD (fs.getD j [])) hlt h)
   generalize hva:isSite p is k=va at his HY
   generalize hvb:fullD (fs.getD k [])=vb at hfu HY
   have HV:=Lib.hid (And.intro hva hvb)
   obtain⟨sp,sn,sc⟩:=s
   dsimp only[Sl.v]at hr hfu
   have HR:=Lib.hid hr
   have HFK:=Lib.hid hfu
   have HI:=Lib.hid his
   clear hr hfu his hva hvb
   go_upto_region 21 with(first|(with_reducible refine ldB HR.out hL ?_)|(with_reducible first|refine lld hL ?_|((first|refine lbx hL ?_|refine lal hL ?_|refine lbs hL ?_);clear hL;intro bl w1 hL)|(refine lst' hL ?_;clear hL;intro w1 hL)))
   refine seq_begin [78,79,80,81,82,83,84,85] ?_
   refine dv0 ?_
   refine dv0 ?_
   apply draw_val
   ·intro g w hb V;replace hL:=hL.grow hb;have d0:=yv V 0;have d1:=yv V 1;clear V;simp only[fillD,fLa,fLb,sTa,sTb];simp only[d0,d1]
    go_wp2_with (go_at_call 106;refine(HI.out _ hL.below).mono ?_;rintro e w3 ⟨rfl,hb3⟩;dsimp only)
    exact⟨rfl,_,rfl,hb3,rfl⟩
   simp only[apN,apC]
   refine dv1 2 ?_
   refine dv1 3 ?_
   refine dg0 4 ?_
   refine' draw_guard (j:=4) rfl rfl rfl (by decide) (by simp) ?_ ?_;rotate_left
   ·intro hcs;simp only[Bool.and_eq_true,beqT,beqF]at hcs;intro g w hb V;replace hL:=hL.grow hb;have d5:=yv V 5;simp only[hcs,beq_self_eq_true,Bool.and_self,Bool.true_and,Bool.and_true,cnd_true]at d5;clear V;simp only[fillD,fLa,fLb,sTa,sTb];simp only[d5]
    go_wp2_with (go_at_call 125;refine(HFK.out _ hL.below).mono ?_;rintro e w3 ⟨rfl,hb3⟩;dsimp only)
    exact⟨rfl,_,rfl,hb3,rfl⟩
   simp only[apN,apC]
   refine dpa 4 6 ?_
   refine dns hL ?_
   clear hL;intro w2 hL;simp only[fillX,sTa,sTb]
   generalize hab:(!va&&vb)=ab
   cases ab with
   | true=>
    have HX:=Lib.hid (HF3.out.trans (if_pos (HY.out hab)))
    clear hab
    go_wp2_with (first|(with_reducible first|refine lld hL ?_|((first|refine lbx hL ?_|refine lal hL ?_|refine lbs hL ?_);clear hL;intro bl w1 hL)|(refine lst' hL ?_;clear hL;intro w1 hL)))
    (try simp only[Exit.inBlock,Exit.then]);refine rt1 ?_
    exact⟨by rw[HX.out];rfl,hL.below⟩
   | false=>
    have HAB:=Lib.hid hab
    clear hab
    go_wp2_with (first|(with_reducible first|refine lld hL ?_|((first|refine lbx hL ?_|refine lal hL ?_|refine lbs hL ?_);clear hL;intro bl w1 hL)|(refine lst' hL ?_;clear hL;intro w1 hL)))
    go_roundw
    case rel=>
     refine⟨k+1,by omega,by go_num,fun j hj=>?_,hL⟩
     rcases Nat.lt_or_ge j k with h|h
     ·exact HQ.out j h
     ·obtain rfl:j=k:=by omega
      rw[HV.out.1,HV.out.2]
      exact HAB.out
    case measure=>simp[intOf];omega
  ·obtain rfl:k=fs.length:=by omega
   have HX:=Lib.hid (HF3.out.trans (if_neg (by rw[show strayD p is fs=false from anyN_no HQ.out];decide)))
   go_wp2_with (first|(with_reducible first|refine lld hL ?_|((first|refine lbx hL ?_|refine lal hL ?_|refine lbs hL ?_);clear hL;intro bl w1 hL)|(refine lst' hL ?_;clear hL;intro w1 hL)))
   (try simp only[Exit.inBlock,Exit.then]);refine rt1 ?_
   exact⟨by rw[HX.out];rfl,hL.below⟩
theorem picRight_any (p:Pg) (is:Nat→Ins) (x:Pv) (d:Pd) (w:World) (hn:p.n≤60) (hc:CodeAt w p is) (hx:PicIs w x d):
  Calls Tryz.prog 62 #[p.v,x.v] w fun e w'=>e=.returned (.int .i64 (rightP p is d))∧Below w.heap.size w w':=by
 obtain⟨xn,sv,sf⟩:=x
 obtain⟨dn,vs,fs⟩:=d
 obtain⟨he,hv,hf,hm⟩:=hx
 dsimp only at he hv hf hm
 subst he
 cases xn with
 | true=>exact picRight_none p is sv sf vs fs w hv.n hf.n hm
 | false=>exact picRight_some p is sv sf vs fs w hn hc hv hf
structure PicsAt (w:World) (p:Option Addr) (n:Nat) (xs:Nat→Pv) (ds:Nat→Pd):Prop where
 at' : ListC w 3 p n (fun k=>(xs k).cells)
 pics:∀ k,k<n→PicIs w (xs k) (ds k)
 m:n≤9223372036854775807
theorem PicsAt.grow {w w' : World}{p:Option Addr}{n:Nat}{xs:Nat→Pv}{ds:Nat→Pd}(h:PicsAt w p n xs ds) (hb:Below w.heap.size w w'):PicsAt w' p n xs ds:=⟨h.at'.grow hb,fun k hk=>(h.pics k hk).grow hb,h.m⟩
def checkPs (p:Pg) (is:Nat→Ins) (ds:Nat→Pd) (n:Nat):Int:=errs (checkProg p is) (fun k=>rightP p is (ds k)) n
theorem pready_any (p:Pg) (is:Nat→Ins) (lp:Option Addr) (n cap:Nat) (xs:Nat→Pv) (ds:Nat→Pd) (w:World) (hn:p.n≤9223372036854775807) (hc:CodeAt w p is) (hg:PicsAt w lp n xs ds):
  Calls Tryz.prog 56 #[p.v,.slice lp n cap] w fun e w'=>e=.returned (.int .i64 (checkPs p is ds n))∧Below w.heap.size w w':=by
 obtain⟨b,o,hpp,hcc⟩:=hg.at'.ex
 have hm:=hg.m
 have HP:=Lib.hid hpp
 have HC:=Lib.hid hcc
 have HG:=Lib.hid (fun (h60:p.n≤60) k hk w' (hb:Below w.heap.size w w')=>picRight_any p is (xs k) (ds k) w' h60 (hc.grow hb) ((hg.pics k hk).grow hb))
 have hs:=fun w' (hb:Below w.heap.size w w')=>codeCheck_any p is w' (hc.grow hb) hn
 have HF:=Lib.hid (show checkPs p is ds n=errs (checkProg p is) (fun k=>rightP p is (ds k)) n from rfl)
 have hsm:=fun (h:checkProg p is=0)=>(prog_right h).1.n1
 have HSM:=Lib.hid hsm
 generalize checkProg p is=cp at hs HF HSM
 have HS:=Lib.hid hs
 clear hpp hcc hs hc hg hsm
 have hL:=Loc.start w
 go_enter Tryz.func56,Tryz.ntmps56
 go_step
 go_step
 go_step
 ((with_reducible refine lbx hL ?_);clear hL;intro b2 w1 hL)
 by_cases h0:cp=0
 case neg=>
  have k0:(cp != 0)=true:=by simpa using h0
  have HX:=Lib.hid (show checkPs p is ds n=cp from HF.out.trans (errs_stop (k:=0) (Nat.zero_le _) h0))
  clear h0
  go_wp2_with (first|(with_reducible first|refine lld hL ?_|((first|refine lbx hL ?_|refine lal hL ?_|refine lbs hL ?_);clear hL;intro bl w1 hL)|(refine lst' hL ?_;clear hL;intro w1 hL))|(go_at_call 48;refine(HS.out _ hL.below).mono ?_;rintro e w1 ⟨rfl,hb⟩;replace hL:=hL.grow hb;clear hb;dsimp only))
  (try simp only[Exit.inBlock,Exit.then]);refine rt1 ?_
  exact⟨by rw[HX.out];rfl,hL.below⟩
 subst h0
 have HG2:=Lib.hid (HG.out (HSM.out rfl))
 clear HG HSM
 go_wp2_with (first|(with_reducible first|refine lld hL ?_|((first|refine lbx hL ?_|refine lal hL ?_|refine lbs hL ?_);clear hL;intro bl w1 hL)|(refine lst' hL ?_;clear hL;intro w1 hL))|(go_at_call 48;refine(HS.out _ hL.below).mono ?_;rintro e w1 ⟨rfl,hb⟩;replace hL:=hL.grow hb;clear hb;dsimp only))
 clear HS
 go_loopw [16] (fun c wr=>∃ k:Nat,k≤n∧c=.int .i64 k∧errs 0 (fun k=>rightP p is (ds k)) k=0∧Loc w wr [(b2,27,[.int .i64 p.vars,.int .i64 p.fields,.slice p.pc p.n p.cap])] []) (fun c _=>n - (intOf c).toNat)
 case atStart=>exact⟨0,Nat.zero_le _,rfl,rfl,hL⟩
 case round=>
  obtain⟨k,hk,rfl,hq,hL⟩:=hrel
  have HQ:=Lib.hid hq
  clear hq
  by_cases hlt:k<n
  ·obtain rfl:=HP.out (by omega)
   clear HP
   have hr:=ReadsAt.agg (P:=Tryz.prog) tPic (HC.out k hlt).1 (HC.out k hlt).2 rfl
   have hg1:=HG2.out k hlt
   have he:=errs_next HQ.out
   try dsimp only at he hr
   generalize hrg:rightP p is (ds k)=r at hg1 he
   generalize xs k=x at hr hg1
   obtain⟨xn,⟨vp,vn,vc⟩,⟨fp,fn,fc⟩⟩:=x
   try dsimp only[Pv.v,Pv.cells]at hr hg1
   have HR:=Lib.hid hr
   have HG1:=Lib.hid hg1
   have HE:=Lib.hid he
   clear hr hg1 he hrg
   by_cases h1:r=0
   case neg=>
    have k1:(r != 0)=true:=by simpa using h1
    have HX:=Lib.hid (show checkPs p is ds n=r from HF.out.trans ((errs_stop (k:=k+1) (by omega) (by rw[HE.out];exact h1)).trans HE.out))
    clear h1
    go_wp2_with (first|(with_reducible refine ldB HR.out hL ?_)|(with_reducible first|refine lld hL ?_|((first|refine lbx hL ?_|refine lal hL ?_|refine lbs hL ?_);clear hL;intro bl w1 hL)|(refine lst' hL ?_;clear hL;intro w1 hL))|(go_at_call 62;refine(HG1.out _ hL.below).mono ?_;rintro e w1 ⟨rfl,hb⟩;replace hL:=hL.grow hb;clear hb;dsimp only))
    (try simp only[Exit.inBlock,Exit.then]);refine rt1 ?_
    exact⟨by rw[HX.out];rfl,hL.below⟩
   subst h1
   go_wp2_with (first|(with_reducible refine ldB HR.out hL ?_)|(with_reducible first|refine lld hL ?_|((first|refine lbx hL ?_|refine lal hL ?_|refine lbs hL ?_);clear hL;intro bl w1 hL)|(refine lst' hL ?_;clear hL;intro w1 hL))|(go_at_call 62;refine(HG1.out _ hL.below).mono ?_;rintro e w1 ⟨rfl,hb⟩;replace hL:=hL.grow hb;clear hb;dsimp only))
   go_roundw
   case rel=>exact⟨k+1,by omega,by go_num,HE.out,hL.drop (List.sublist_cons_self _ _) (fun _ h=>h)⟩
   case measure=>simp[intOf];omega
  ·obtain rfl:k=n:=by omega
   go_wp2_with (first|(with_reducible first|refine lld hL ?_|((first|refine lbx hL ?_|refine lal hL ?_|refine lbs hL ?_);clear hL;intro bl w1 hL)|(refine lst' hL ?_;clear hL;intro w1 hL)))
   (try simp only[Exit.inBlock,Exit.then]);refine rt1 ?_
   exact⟨by rw[HF.out,HQ.out];rfl,hL.below⟩
theorem pics1 {w:World}{b:Nat}{x:Pv}{d:Pd}(hh:w.heap[b]? = some (.cells x.cells.toArray 54 (0,0))) (hx:PicIs w x d):PicsAt w (some ⟨b,0,none⟩) 1 (fun _=>x) (fun _=>d):=by
 refine⟨⟨b,0,fun _=>rfl,fun k hk=>⟨heap_lt hh,fun j v hj=>?_⟩⟩,fun k hk=>hx,by decide⟩
 obtain rfl:k=0:=by omega
 have e:w.cell? ⟨b,0+0*3+j,none⟩=x.cells[j]? :=by simp[World.cell?,hh]
 rw[e];exact hj
theorem pics2 {w:World}{b:Nat}{x y:Pv}{d e:Pd}(hh:w.heap[b]? = some (.cells (x.cells++y.cells).toArray 54 (0,0))) (hx:PicIs w x d) (hy:PicIs w y e):PicsAt w (some ⟨b,0,none⟩) 2 (pick2 x y) (pick2 d e):=by
 refine⟨⟨b,0,fun _=>rfl,fun k hk=>⟨heap_lt hh,fun j v hj=>?_⟩⟩,fun k hk=>?_,by decide⟩
 ·rcases (show k=0∨k=1 by omega) with rfl|rfl
  ·have hj3:j<3:=(List.getElem?_eq_some_iff.1 hj).1
   have e:w.cell? ⟨b,0+0*3+j,none⟩=(x.cells++y.cells)[j]? :=by simp[World.cell?,hh]
   rw[e,List.getElem?_append_left hj3]
   exact hj
  ·have e:w.cell? ⟨b,0+1*3+j,none⟩=(x.cells++y.cells)[3+j]? :=by simp[World.cell?,hh]
   rw[e,List.getElem?_append_right (by simp)]
   simpa [pick2] using hj
 ·rcases (show k=0∨k=1 by omega) with rfl|rfl
  ·exact hx
  ·exact hy
def cp1 (p:Pg) (is:Nat→Ins) (d:Pd):Int:=checkPs p is (fun _=>d) 1
def cp2 (p:Pg) (is:Nat→Ins) (d e:Pd):Int:=checkPs p is (pick2 d e) 2
theorem cp2_zero {p:Pg}{is:Nat→Ins}{d e:Pd}(hz:cp2 p is d e=0):checkProg p is=0∧rightP p is d=0∧rightP p is e=0:=by
 have h1:errs (checkProg p is) (fun k=>rightP p is (pick2 d e k)) 2=0:=hz
 have h2:errs (checkProg p is) (fun k=>rightP p is (pick2 d e k)) 1=0:=by
  by_cases h3:errs (checkProg p is) (fun k=>rightP p is (pick2 d e k)) 1=0
  ·exact h3
  ·exact absurd ((errs_stop (k:=1) (by omega) h3).symm.trans h1) h3
 have h0:checkProg p is=0:=by
  by_cases h3:errs (checkProg p is) (fun k=>rightP p is (pick2 d e k)) 0=0
  ·exact h3
  ·exact absurd ((errs_stop (k:=0) (by omega) h3).symm.trans h2) h3
 exact⟨h0,(errs_next (k:=0) h0).symm.trans h2,(errs_next (k:=1) h2).symm.trans h1⟩
theorem pCheck_any (p:Pg) (is:Nat→Ins) (x:Pv) (d:Pd) (w:World) (hn:p.n≤9223372036854775807) (hc:CodeAt w p is) (hx:PicIs w x d):
  Calls Tryz.prog 55 #[p.v,x.v] w fun e w'=>e=.returned (.int .i64 (cp1 p is d))∧Below w.heap.size w w':=by
 have HR:=Lib.hid (fun (b:Nat) (w' : World) (hb:Below w.heap.size w w') (hh:w'.heap[b]? = some (.cells x.cells.toArray 54 (0,0)))=>(show Calls Tryz.prog 56 #[p.v,.slice (some ⟨b,0,none⟩) 1 1] w' fun e w2=>e=.returned (.int .i64 (cp1 p is d))∧Below w'.heap.size w' w2 from pready_any p is (some ⟨b,0,none⟩) 1 1 (fun _=>x) (fun _=>d) w' hn (hc.grow hb) (pics1 hh (hx.grow hb))))
 generalize cp1 p is d=c at HR ⊢
 clear hc hx
 have hL:=Loc.start w
 go_enter Tryz.func55,Tryz.ntmps55
 go_wp2_with (first|(with_reducible first|refine lld hL ?_|((first|refine lbx hL ?_|refine lal hL ?_|refine lbs hL ?_);clear hL;intro bl w1 hL)|(refine lst' hL ?_;clear hL;intro w1 hL))|(go_at_call 56;refine(HR.out bl _ hL.below (hL.heap cIn)).mono ?_;rintro e w1 ⟨rfl,hb⟩;replace hL:=hL.grow hb;clear hb;dsimp only))
 (try simp only[Exit.inBlock,Exit.then]);refine rt1 ?_
 exact⟨rfl,hL.below⟩
end Go.Proofs.YteoilpcbekijlaaGreatDoor
