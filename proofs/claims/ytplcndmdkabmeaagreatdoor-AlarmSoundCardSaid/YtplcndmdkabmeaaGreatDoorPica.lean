import Derived.Test.YtplcndmdkabmeaaGreatDoorCod
import Derived.Test.YtplcndmdkabmeaaGreatDoorGue
import Derived.Test.YtplcndmdkabmeaaGreatDoorVal
import Derived.Deep.CutBlock
import Derived.Test.YtplcndmdkabmeaaGreatDoorGua
set_option linter.unusedSimpArgs false
set_option linter.unusedVariables false
set_option maxRecDepth 100000
set_option maxHeartbeats 1600000
namespace Go.Proofs.YtplcndmdkabmeaaGreatDoor
open Go.RowKit
def equalN (a b:Nat) (q:Nat→Bool):Bool:=a==b && !anyN (fun k=>!q k) a
theorem equalN_len {a b:Nat}{q:Nat→Bool}(h:a≠b):equalN a b q=false:=by simp[equalN,h]
theorem equalN_no {a b:Nat}{q:Nat→Bool}{k:Nat}(h:k<a) (hq:q k=false):equalN a b q=false:=by
 simp[equalN,anyN_yes (q:=fun k=>!q k) h (by simp[hq])]
theorem equalN_all {a:Nat}{q:Nat→Bool}(h:∀ k,k<a→q k=true):equalN a a q=true:=by
 unfold equalN
 rw[anyN_no (q:=fun k=>!q k) (fun k hk=>by rw[h k hk];rfl)]
 simp
abbrev Sl.row (s:Sl):List Value:=[.slice s.p s.n s.cap]
theorem readRow {w:World}{b o k:Nat}{s:Sl}(hb:b<w.heap.size) (h:∀ j v,(s.row)[j]? = some v→w.cell? ⟨b,o+k*1+j,none⟩=some v):ReadsAt Tryz.prog 51 w b (o+k) s.v:=by
 have:=ReadsAt.cell (P:=Tryz.prog) tGuesses hb (h 0 _ rfl)
 rwa [Nat.mul_one,Nat.add_zero]at this
theorem equalGG (s t:Sl) (gs:Nat→Gu) (hs:Nat→Gu) (q:Nat→Bool) (K:FuncId) (w:World) (n1:s.n≤9223372036854775807) (n2:t.n≤9223372036854775807) (hl:ListC w 7 s.p s.n (fun k=>(gs k).cells)) (hm:ListC w 7 t.p t.n (fun k=>(hs k).cells))
  (he:∀ args w,(callFunc K args).run Tryz.prog w=.ok (.enter K args) w) (hf:∀ k,k<s.n→k<t.n→∀ w',Below w.heap.size w w'→Calls Tryz.prog K #[(gs k).v,(hs k).v] w' fun e w''=>e=.returned (.bool (q k))∧Below w'.heap.size w' w''):
  Calls Tryz.prog 149 #[s.v,t.v,.func (.func K) #[] #[]] w fun e w'=>e=.returned (.bool (equalN s.n t.n q))∧Below w.heap.size w w':=by
 obtain⟨sp,sn,sc⟩:=s
 obtain⟨tp,tn,tc⟩:=t
 dsimp only at n1 n2 hl hm hf ⊢
 dsimp only[Sl.v]
 obtain⟨b,o,hp,hc⟩:=hl.ex
 obtain⟨b',o',hp',hc'⟩:=hm.ex
 have HP:=Lib.hid hp
 have HC:=Lib.hid hc
 have HP':=Lib.hid hp'
 have HD:=Lib.hid hc'
 have HF:=Lib.hid hf
 clear hp hc hp' hc' hl hm hf
 have hL:=Loc.start w
 go_enter Tryz.func149,Tryz.ntmps149
 by_cases hne:sn=tn
 case neg=>
  have HX:=Lib.hid (show equalN sn tn q=false from equalN_len hne)
  have k0:((sn:Int) != (tn:Int))=true:=by simp;omega
  clear hne
  go_wp2_with (first|(with_reducible first|refine lld hL ?_|((first|refine lbx hL ?_|refine lal hL ?_|refine lbs hL ?_);clear hL;intro bl w1 hL)|(refine lst' hL ?_;clear hL;intro w1 hL)))
  (try simp only[Exit.inBlock,Exit.then]);refine rt1 ?_
  exact⟨by rw[HX.out];rfl,hL.below⟩
 subst hne
 go_wp2_with (first|(with_reducible first|refine lld hL ?_|((first|refine lbx hL ?_|refine lal hL ?_|refine lbs hL ?_);clear hL;intro bl w1 hL)|(refine lst' hL ?_;clear hL;intro w1 hL)))
 go_loopw [17] (fun x wr=>∃ k:Nat,k≤sn∧x=.int .i64 k∧(∀ j,j<k→q j=true)∧Loc w wr [] []) (fun x _=>sn - (intOf x).toNat)
 case atStart=>exact⟨0,Nat.zero_le _,rfl,fun j hj=>absurd hj (by omega),hL⟩
 case round=>
  obtain⟨k,hk,rfl,hq,hL⟩:=hrel
  have HQ:=Lib.hid hq
  clear hq
  by_cases hlt:k<sn
  ·obtain rfl:=HP.out (by omega)
   obtain rfl:=HP'.out (by omega)
   have hr1:=ReadsAt.agg (P:=Tryz.prog) tGuess (HC.out k hlt).1 (HC.out k hlt).2 rfl
   have hr2:=ReadsAt.agg (P:=Tryz.prog) tGuess (HD.out k hlt).1 (HD.out k hlt).2 rfl
   have hk2:=HF.out k hlt hlt
   cases hqk:q k with
   | false=>
    rw[hqk]at hk2
    have HA:=Lib.hid (show equalN sn sn q=false from equalN_no hlt hqk)
    clear hqk
    generalize gs k=g at hr1 hk2
    generalize hs k=h at hr2 hk2
    obtain⟨gl,⟨gn,glo,ghi⟩,gt,gf,⟨gp,gk,gc⟩⟩:=g
    obtain⟨hl,⟨hn,hlo,hhi⟩,ht,hf,⟨hp,hk9,hc⟩⟩:=h
    try dsimp only at hr1 hr2 hk2
    have HR1:=Lib.hid hr1
    have HR2:=Lib.hid hr2
    have HK2:=Lib.hid hk2
    clear hr1 hr2 hk2
    go_wp2_with (first|(with_reducible first|refine lld hL ?_|((first|refine lbx hL ?_|refine lal hL ?_|refine lbs hL ?_);clear hL;intro bl w1 hL)|(refine lst' hL ?_;clear hL;intro w1 hL))|(refine loc_loadB HR1.out hL (by exact cWant) rfl ?_)|(refine loc_loadB HR2.out hL (by exact cWant) rfl ?_)|((with_reducible refine(HK2.out _ hL.below).mono ?_);rintro e w1 ⟨rfl,hb⟩;replace hL:=hL.grow hb;clear hb;dsimp only))
    (try simp only[Exit.inBlock,Exit.then]);refine rt1 ?_
    exact⟨by rw[HA.out];rfl,hL.below⟩
   | true=>
    rw[hqk]at hk2
    have HA:=Lib.hid hqk
    clear hqk
    generalize gs k=g at hr1 hk2
    generalize hs k=h at hr2 hk2
    obtain⟨gl,⟨gn,glo,ghi⟩,gt,gf,⟨gp,gk,gc⟩⟩:=g
    obtain⟨hl,⟨hn,hlo,hhi⟩,ht,hf,⟨hp,hk9,hc⟩⟩:=h
    try dsimp only at hr1 hr2 hk2
    have HR1:=Lib.hid hr1
    have HR2:=Lib.hid hr2
    have HK2:=Lib.hid hk2
    clear hr1 hr2 hk2
    go_wp2_with (first|(with_reducible first|refine lld hL ?_|((first|refine lbx hL ?_|refine lal hL ?_|refine lbs hL ?_);clear hL;intro bl w1 hL)|(refine lst' hL ?_;clear hL;intro w1 hL))|(refine loc_loadB HR1.out hL (by exact cWant) rfl ?_)|(refine loc_loadB HR2.out hL (by exact cWant) rfl ?_)|((with_reducible refine(HK2.out _ hL.below).mono ?_);rintro e w1 ⟨rfl,hb⟩;replace hL:=hL.grow hb;clear hb;dsimp only))
    go_roundw
    case rel=>
     refine⟨k+1,by omega,by go_num,fun j hj=>?_,hL.drop (List.nil_sublist _) (fun _ h=>h)⟩
     rcases Nat.lt_or_ge j k with h|h
     ·exact HQ.out j h
     ·obtain rfl:j=k:=by omega
      exact HA.out
    case measure=>simp[intOf];omega
  ·obtain rfl:k=sn:=by omega
   go_wp2_with (first|(with_reducible first|refine lld hL ?_|((first|refine lbx hL ?_|refine lal hL ?_|refine lbs hL ?_);clear hL;intro bl w1 hL)|(refine lst' hL ?_;clear hL;intro w1 hL)))
   (try simp only[Exit.inBlock,Exit.then]);refine rt1 ?_
   exact⟨by rw[equalN_all HQ.out];rfl,hL.below⟩
theorem equalRR (s t:Sl) (gs:Nat→Sl) (hs:Nat→Sl) (q:Nat→Bool) (K:FuncId) (w:World) (n1:s.n≤9223372036854775807) (n2:t.n≤9223372036854775807) (hl:ListC w 1 s.p s.n (fun k=>(gs k).row)) (hm:ListC w 1 t.p t.n (fun k=>(hs k).row))
  (he:∀ args w,(callFunc K args).run Tryz.prog w=.ok (.enter K args) w) (hf:∀ k,k<s.n→k<t.n→∀ w',Below w.heap.size w w'→Calls Tryz.prog K #[(gs k).v,(hs k).v] w' fun e w''=>e=.returned (.bool (q k))∧Below w'.heap.size w' w''):
  Calls Tryz.prog 151 #[s.v,t.v,.func (.func K) #[] #[]] w fun e w'=>e=.returned (.bool (equalN s.n t.n q))∧Below w.heap.size w w':=by
 obtain⟨sp,sn,sc⟩:=s
 obtain⟨tp,tn,tc⟩:=t
 dsimp only at n1 n2 hl hm hf ⊢
 dsimp only[Sl.v]
 obtain⟨b,o,hp,hc⟩:=hl.ex
 obtain⟨b',o',hp',hc'⟩:=hm.ex
 have HP:=Lib.hid hp
 have HC:=Lib.hid hc
 have HP':=Lib.hid hp'
 have HD:=Lib.hid hc'
 have HF:=Lib.hid hf
 clear hp hc hp' hc' hl hm hf
 have hL:=Loc.start w
 go_enter Tryz.func151,Tryz.ntmps151
 by_cases hne:sn=tn
 case neg=>
  have HX:=Lib.hid (show equalN sn tn q=false from equalN_len hne)
  have k0:((sn:Int) != (tn:Int))=true:=by simp;omega
  clear hne
  go_wp2_with (first|(with_reducible first|refine lld hL ?_|((first|refine lbx hL ?_|refine lal hL ?_|refine lbs hL ?_);clear hL;intro bl w1 hL)|(refine lst' hL ?_;clear hL;intro w1 hL)))
  (try simp only[Exit.inBlock,Exit.then]);refine rt1 ?_
  exact⟨by rw[HX.out];rfl,hL.below⟩
 subst hne
 go_wp2_with (first|(with_reducible first|refine lld hL ?_|((first|refine lbx hL ?_|refine lal hL ?_|refine lbs hL ?_);clear hL;intro bl w1 hL)|(refine lst' hL ?_;clear hL;intro w1 hL)))
 go_loopw [17] (fun x wr=>∃ k:Nat,k≤sn∧x=.int .i64 k∧(∀ j,j<k→q j=true)∧Loc w wr [] []) (fun x _=>sn - (intOf x).toNat)
 case atStart=>exact⟨0,Nat.zero_le _,rfl,fun j hj=>absurd hj (by omega),hL⟩
 case round=>
  obtain⟨k,hk,rfl,hq,hL⟩:=hrel
  have HQ:=Lib.hid hq
  clear hq
  by_cases hlt:k<sn
  ·obtain rfl:=HP.out (by omega)
   obtain rfl:=HP'.out (by omega)
   have hr1:=readRow (HC.out k hlt).1 (HC.out k hlt).2
   have hr2:=readRow (HD.out k hlt).1 (HD.out k hlt).2
   have hk2:=HF.out k hlt hlt
   cases hqk:q k with
   | false=>
    rw[hqk]at hk2
    have HA:=Lib.hid (show equalN sn sn q=false from equalN_no hlt hqk)
    clear hqk
    generalize gs k=g at hr1 hk2
    generalize hs k=h at hr2 hk2
    obtain⟨gp,gk,gc⟩:=g
    obtain⟨hp,hk9,hc⟩:=h
    try dsimp only at hr1 hr2 hk2
    have HR1:=Lib.hid hr1
    have HR2:=Lib.hid hr2
    have HK2:=Lib.hid hk2
    clear hr1 hr2 hk2
    go_wp2_with (first|(with_reducible first|refine lld hL ?_|((first|refine lbx hL ?_|refine lal hL ?_|refine lbs hL ?_);clear hL;intro bl w1 hL)|(refine lst' hL ?_;clear hL;intro w1 hL))|(refine loc_loadB HR1.out hL (by exact cWant) rfl ?_)|(refine loc_loadB HR2.out hL (by exact cWant) rfl ?_)|((with_reducible refine(HK2.out _ hL.below).mono ?_);rintro e w1 ⟨rfl,hb⟩;replace hL:=hL.grow hb;clear hb;dsimp only))
    (try simp only[Exit.inBlock,Exit.then]);refine rt1 ?_
    exact⟨by rw[HA.out];rfl,hL.below⟩
   | true=>
    rw[hqk]at hk2
    have HA:=Lib.hid hqk
    clear hqk
    generalize gs k=g at hr1 hk2
    generalize hs k=h at hr2 hk2
    obtain⟨gp,gk,gc⟩:=g
    obtain⟨hp,hk9,hc⟩:=h
    try dsimp only at hr1 hr2 hk2
    have HR1:=Lib.hid hr1
    have HR2:=Lib.hid hr2
    have HK2:=Lib.hid hk2
    clear hr1 hr2 hk2
    go_wp2_with (first|(with_reducible first|refine lld hL ?_|((first|refine lbx hL ?_|refine lal hL ?_|refine lbs hL ?_);clear hL;intro bl w1 hL)|(refine lst' hL ?_;clear hL;intro w1 hL))|(refine loc_loadB HR1.out hL (by exact cWant) rfl ?_)|(refine loc_loadB HR2.out hL (by exact cWant) rfl ?_)|((with_reducible refine(HK2.out _ hL.below).mono ?_);rintro e w1 ⟨rfl,hb⟩;replace hL:=hL.grow hb;clear hb;dsimp only))
    go_roundw
    case rel=>
     refine⟨k+1,by omega,by go_num,fun j hj=>?_,hL.drop (List.nil_sublist _) (fun _ h=>h)⟩
     rcases Nat.lt_or_ge j k with h|h
     ·exact HQ.out j h
     ·obtain rfl:j=k:=by omega
      exact HA.out
    case measure=>simp[intOf];omega
  ·obtain rfl:k=sn:=by omega
   go_wp2_with (first|(with_reducible first|refine lld hL ?_|((first|refine lbx hL ?_|refine lal hL ?_|refine lbs hL ?_);clear hL;intro bl w1 hL)|(refine lst' hL ?_;clear hL;intro w1 hL)))
   (try simp only[Exit.inBlock,Exit.then]);refine rt1 ?_
   exact⟨by rw[equalN_all HQ.out];rfl,hL.below⟩
theorem none_right (p:Pg) (is:Nat→Ins) (vs:List Res) (fs:List (List Res)):rightP p is ⟨true,vs,fs⟩=if 0<vs.length+fs.length then 1 else 0:=if_pos rfl
theorem RowS.at1 {E g n cap k:Nat}{cs:List Value}{p:Option Addr}{l:List Sl}(h:RowS E 1 p n cap (l.flatMap Sl.row) [(g,E,cs)]) (hk:k<n):cs[k]? = some (l.getD k nilSl).v:=by
 have h1:=h.elem (f:=Sl.row) (fun _=>rfl) nilSl hk
 rw[Nat.mul_one]at h1
 have h2:((cs.drop k).take 1)[0]? = some (l.getD k nilSl).v:=by rw[h1];rfl
 rw[List.getElem?_take,if_pos (by decide),List.getElem?_drop,Nat.add_zero]at h2
 exact h2
theorem rows_list {w:World}{p:Option Addr}{n:Nat}{rs:Nat→Sl}(h:ListC w 1 p n (fun k=>[.slice (rs k).p (rs k).n (rs k).cap])):ListAt Tryz.prog 51 1 w p n (fun k=>(rs k).v):=by
 obtain⟨b,o,h1,h2⟩:=h.ex
 refine⟨b,o,h1,fun k hk=>?_⟩
 have h3:=ReadsAt.cell (P:=Tryz.prog) tGuesses (h2 k hk).1 ((h2 k hk).2 0 _ rfl)
 rwa [Nat.add_zero]at h3
theorem some_right (p:Pg) (is:Nat→Ins) (vs:List Res) (fs:List (List Res)):rightP p is ⟨false,vs,fs⟩=if lensD p ⟨false,vs,fs⟩=true then 1 else if rowsE p is (vs::fs)≠0 then rowsE p is (vs::fs) else if strayD p is fs=true then 4 else 0:=if_neg (show ¬ (false=true) by decide)
structure PicsAt (w:World) (p:Option Addr) (n:Nat) (xs:Nat→Pv) (ds:Nat→Pd):Prop where
 at' : ListC w 3 p n (fun k=>(xs k).cells)
 pics:∀ k,k<n→PicIs w (xs k) (ds k)
 m:n≤9223372036854775807
theorem PicsAt.grow {w w' : World}{p:Option Addr}{n:Nat}{xs:Nat→Pv}{ds:Nat→Pd}(h:PicsAt w p n xs ds) (hb:Below w.heap.size w w'):PicsAt w' p n xs ds:=⟨h.at'.grow hb,fun k hk=>(h.pics k hk).grow hb,h.m⟩
end Go.Proofs.YtplcndmdkabmeaaGreatDoor
