/- The walks over slices.IndexFunc, slices.ContainsFunc and slices.EqualFunc at slices of guesses, of rows and of things, whatever the function does, if it leaves what was there as it was. Conditions: the elements lie in memory that was there. | The walks over picture.Right, ready, Check. Conditions: what they read lies in memory that was there; the program has few instructions. | The walk over picture.Right at a picture of runs. Conditions: what it reads lies in memory that was there; the program has few instructions. | The walks over picture.ready, picture.Check. Conditions: what they read lies in memory that was there. -/
import Derived.Test.YtplcndmdkabmeaaGreatDoorCod
import Derived.Test.YtplcndmdkabmeaaGreatDoorGue
import Derived.Test.YtplcndmdkabmeaaGreatDoorVal
import Derived.Deep.CutBlock
import Derived.Test.YtplcndmdkabmeaaGreatDoorGua
set_option linter.unusedSimpArgs false
set_option linter.unusedVariables false
set_option maxRecDepth 100000
set_option maxHeartbeats 1600000
namespace Go.Proofs.YtplcndmdkabmeaaGreatDoor
open Go.RowKit
def jy (a b:Nat) (q:Nat→Bool):Bool:=a==b && !j7 (fun k=>!q k) a
theorem ZC {a b:Nat}{q:Nat→Bool}(h:a≠b):jy a b q=false:=by simp[jy,h]
theorem XM {a b:Nat}{q:Nat→Bool}{k:Nat}(h:k<a) (hq:q k=false):jy a b q=false:=by
 simp[jy,qY (q:=fun k=>!q k) h (by simp[hq])]
theorem ZD {a:Nat}{q:Nat→Bool}(h:∀ k,k<a→q k=true):jy a a q=true:=by
 unfold jy
 rw[jx (q:=fun k=>!q k) (fun k hk=>by rw[h k hk];rfl)]
 simp
abbrev Sl.row (s:Sl):List Value:=[.slice s.p s.n s.cap]
theorem UI {w:World}{b o k:Nat}{s:Sl}(hb:b<w.heap.size) (h:∀ j v,(s.row)[j]? = some v→w.cell? ⟨b,o+k*1+j,none⟩=some v):zg Tryz.prog 51 w b (o+k) s.v:=by
 have:=zg.cell (P:=Tryz.prog) yA hb (h 0 _ rfl)
 rwa [Nat.mul_one,Nat.add_zero]at this
theorem zfI (s t:Sl) (gs:Nat→Gu) (hs:Nat→Gu) (q:Nat→Bool) (K:FuncId) (w:World) (n1:s.n≤9223372036854775807) (n2:t.n≤9223372036854775807) (hl:je w 7 s.p s.n (fun k=>(gs k).cells)) (hm:je w 7 t.p t.n (fun k=>(hs k).cells))
  (he:∀ args w,(callFunc K args).run Tryz.prog w=.ok (.enter K args) w) (hf:∀ k,k<s.n→k<t.n→∀ w',Below w.heap.size w w'→Calls Tryz.prog K #[(gs k).v,(hs k).v] w' fun e w''=>e=.returned (.bool (q k))∧Below w'.heap.size w' w''):
  Calls Tryz.prog 149 #[s.v,t.v,.func (.func K) #[] #[]] w fun e w'=>e=.returned (.bool (jy s.n t.n q))∧Below w.heap.size w w':=by
 obtain⟨sp,sn,sc⟩:=s
 obtain⟨tp,tn,tc⟩:=t
 dsimp only at n1 n2 hl hm hf ⊢
 dsimp only[Sl.v]
 obtain⟨b,o,hp,hc⟩:=hl.ex
 obtain⟨b',o',hp',hc'⟩:=hm.ex
 have HP:=Lib.hid hp
 have HC:=Lib.hid hc
 have HP':=Lib.hid hp'
 have HD:=Lib.hid hc'
 have HF:=Lib.hid hf
 clear hp hc hp' hc' hl hm hf
 have hL:=Loc.start w
 go_enter Tryz.func149,Tryz.ntmps149
 by_cases hne:sn=tn
 case neg=>
  have HX:=Lib.hid (show jy sn tn q=false from ZC hne)
  have k0:((sn:Int) != (tn:Int))=true:=by simp;omega
  clear hne
  go_wp2_with (first|(with_reducible first|refine lld hL ?_|((first|refine lbx hL ?_|refine lal hL ?_|refine lbs hL ?_);clear hL;intro bl w1 hL)|(refine zd hL ?_;clear hL;intro w1 hL)))
  (try simp only[Exit.inBlock,Exit.then]);refine rt1 ?_
  exact⟨by rw[HX.out];rfl,hL.below⟩
 subst hne
 go_wp2_with (first|(with_reducible first|refine lld hL ?_|((first|refine lbx hL ?_|refine lal hL ?_|refine lbs hL ?_);clear hL;intro bl w1 hL)|(refine zd hL ?_;clear hL;intro w1 hL)))
 go_loopw [17] (fun x wr=>∃ k:Nat,k≤sn∧x=.int .i64 k∧(∀ j,j<k→q j=true)∧Loc w wr [] []) (fun x _=>sn - (intOf x).toNat)
 case atStart=>exact⟨0,Nat.zero_le _,rfl,fun j hj=>absurd hj (by omega),hL⟩
 case round=>
  obtain⟨k,hk,rfl,hq,hL⟩:=hrel
  have HQ:=Lib.hid hq
  clear hq
  by_cases hlt:k<sn
  ·obtain rfl:=HP.out (by omega)
   obtain rfl:=HP'.out (by omega)
   have hr1:=zg.agg (P:=Tryz.prog) zZ (HC.out k hlt).1 (HC.out k hlt).2 rfl
   have hr2:=zg.agg (P:=Tryz.prog) zZ (HD.out k hlt).1 (HD.out k hlt).2 rfl
   have hk2:=HF.out k hlt hlt
   cases hqk:q k with
   | false=>
    rw[hqk]at hk2
    have HA:=Lib.hid (show jy sn sn q=false from XM hlt hqk)
    clear hqk
    generalize gs k=g at hr1 hk2
    generalize hs k=h at hr2 hk2
    obtain⟨gl,⟨gn,glo,ghi⟩,gt,gf,⟨gp,gk,gc⟩⟩:=g
    obtain⟨hl,⟨hn,hlo,hhi⟩,ht,hf,⟨hp,hk9,hc⟩⟩:=h
    try dsimp only at hr1 hr2 hk2
    have HR1:=Lib.hid hr1
    have HR2:=Lib.hid hr2
    have HK2:=Lib.hid hk2
    clear hr1 hr2 hk2
    go_wp2_with (first|(with_reducible first|refine lld hL ?_|((first|refine lbx hL ?_|refine lal hL ?_|refine lbs hL ?_);clear hL;intro bl w1 hL)|(refine zd hL ?_;clear hL;intro w1 hL))|(refine zo HR1.out hL (by exact jQ) rfl ?_)|(refine zo HR2.out hL (by exact jQ) rfl ?_)|((with_reducible refine(HK2.out _ hL.below).mono ?_);rintro e w1 ⟨rfl,hb⟩;replace hL:=hL.grow hb;clear hb;dsimp only))
    (try simp only[Exit.inBlock,Exit.then]);refine rt1 ?_
    exact⟨by rw[HA.out];rfl,hL.below⟩
   | true=>
    rw[hqk]at hk2
    have HA:=Lib.hid hqk
    clear hqk
    generalize gs k=g at hr1 hk2
    generalize hs k=h at hr2 hk2
    obtain⟨gl,⟨gn,glo,ghi⟩,gt,gf,⟨gp,gk,gc⟩⟩:=g
    obtain⟨hl,⟨hn,hlo,hhi⟩,ht,hf,⟨hp,hk9,hc⟩⟩:=h
    try dsimp only at hr1 hr2 hk2
    have HR1:=Lib.hid hr1
    have HR2:=Lib.hid hr2
    have HK2:=Lib.hid hk2
    clear hr1 hr2 hk2
    go_wp2_with (first|(with_reducible first|refine lld hL ?_|((first|refine lbx hL ?_|refine lal hL ?_|refine lbs hL ?_);clear hL;intro bl w1 hL)|(refine zd hL ?_;clear hL;intro w1 hL))|(refine zo HR1.out hL (by exact jQ) rfl ?_)|(refine zo HR2.out hL (by exact jQ) rfl ?_)|((with_reducible refine(HK2.out _ hL.below).mono ?_);rintro e w1 ⟨rfl,hb⟩;replace hL:=hL.grow hb;clear hb;dsimp only))
    go_roundw
    case rel=>
     refine⟨k+1,by omega,by go_num,fun j hj=>?_,hL.drop (List.nil_sublist _) (fun _ h=>h)⟩
     rcases Nat.lt_or_ge j k with h|h
     ·exact HQ.out j h
     ·obtain rfl:j=k:=by omega
      exact HA.out
    case measure=>simp[intOf];omega
  ·obtain rfl:k=sn:=by omega
   go_wp2_with (first|(with_reducible first|refine lld hL ?_|((first|refine lbx hL ?_|refine lal hL ?_|refine lbs hL ?_);clear hL;intro bl w1 hL)|(refine zd hL ?_;clear hL;intro w1 hL)))
   (try simp only[Exit.inBlock,Exit.then]);refine rt1 ?_
   exact⟨by rw[ZD HQ.out];rfl,hL.below⟩
theorem zfJ (s t:Sl) (gs:Nat→Sl) (hs:Nat→Sl) (q:Nat→Bool) (K:FuncId) (w:World) (n1:s.n≤9223372036854775807) (n2:t.n≤9223372036854775807) (hl:je w 1 s.p s.n (fun k=>(gs k).row)) (hm:je w 1 t.p t.n (fun k=>(hs k).row))
  (he:∀ args w,(callFunc K args).run Tryz.prog w=.ok (.enter K args) w) (hf:∀ k,k<s.n→k<t.n→∀ w',Below w.heap.size w w'→Calls Tryz.prog K #[(gs k).v,(hs k).v] w' fun e w''=>e=.returned (.bool (q k))∧Below w'.heap.size w' w''):
  Calls Tryz.prog 151 #[s.v,t.v,.func (.func K) #[] #[]] w fun e w'=>e=.returned (.bool (jy s.n t.n q))∧Below w.heap.size w w':=by
 obtain⟨sp,sn,sc⟩:=s
 obtain⟨tp,tn,tc⟩:=t
 dsimp only at n1 n2 hl hm hf ⊢
 dsimp only[Sl.v]
 obtain⟨b,o,hp,hc⟩:=hl.ex
 obtain⟨b',o',hp',hc'⟩:=hm.ex
 have HP:=Lib.hid hp
 have HC:=Lib.hid hc
 have HP':=Lib.hid hp'
 have HD:=Lib.hid hc'
 have HF:=Lib.hid hf
 clear hp hc hp' hc' hl hm hf
 have hL:=Loc.start w
 go_enter Tryz.func151,Tryz.ntmps151
 by_cases hne:sn=tn
 case neg=>
  have HX:=Lib.hid (show jy sn tn q=false from ZC hne)
  have k0:((sn:Int) != (tn:Int))=true:=by simp;omega
  clear hne
  go_wp2_with (first|(with_reducible first|refine lld hL ?_|((first|refine lbx hL ?_|refine lal hL ?_|refine lbs hL ?_);clear hL;intro bl w1 hL)|(refine zd hL ?_;clear hL;intro w1 hL)))
  (try simp only[Exit.inBlock,Exit.then]);refine rt1 ?_
  exact⟨by rw[HX.out];rfl,hL.below⟩
 subst hne
 go_wp2_with (first|(with_reducible first|refine lld hL ?_|((first|refine lbx hL ?_|refine lal hL ?_|refine lbs hL ?_);clear hL;intro bl w1 hL)|(refine zd hL ?_;clear hL;intro w1 hL)))
 go_loopw [17] (fun x wr=>∃ k:Nat,k≤sn∧x=.int .i64 k∧(∀ j,j<k→q j=true)∧Loc w wr [] []) (fun x _=>sn - (intOf x).toNat)
 case atStart=>exact⟨0,Nat.zero_le _,rfl,fun j hj=>absurd hj (by omega),hL⟩
 case round=>
  obtain⟨k,hk,rfl,hq,hL⟩:=hrel
  have HQ:=Lib.hid hq
  clear hq
  by_cases hlt:k<sn
  ·obtain rfl:=HP.out (by omega)
   obtain rfl:=HP'.out (by omega)
   have hr1:=UI (HC.out k hlt).1 (HC.out k hlt).2
   have hr2:=UI (HD.out k hlt).1 (HD.out k hlt).2
   have hk2:=HF.out k hlt hlt
   cases hqk:q k with
   | false=>
    rw[hqk]at hk2
    have HA:=Lib.hid (show jy sn sn q=false from XM hlt hqk)
    clear hqk
    generalize gs k=g at hr1 hk2
    generalize hs k=h at hr2 hk2
    obtain⟨gp,gk,gc⟩:=g
    obtain⟨hp,hk9,hc⟩:=h
    try dsimp only at hr1 hr2 hk2
    have HR1:=Lib.hid hr1
    have HR2:=Lib.hid hr2
    have HK2:=Lib.hid hk2
    clear hr1 hr2 hk2
    go_wp2_with (first|(with_reducible first|refine lld hL ?_|((first|refine lbx hL ?_|refine lal hL ?_|refine lbs hL ?_);clear hL;intro bl w1 hL)|(refine zd hL ?_;clear hL;intro w1 hL))|(refine zo HR1.out hL (by exact jQ) rfl ?_)|(refine zo HR2.out hL (by exact jQ) rfl ?_)|((with_reducible refine(HK2.out _ hL.below).mono ?_);rintro e w1 ⟨rfl,hb⟩;replace hL:=hL.grow hb;clear hb;dsimp only))
    (try simp only[Exit.inBlock,Exit.then]);refine rt1 ?_
    exact⟨by rw[HA.out];rfl,hL.below⟩
   | true=>
    rw[hqk]at hk2
    have HA:=Lib.hid hqk
    clear hqk
    generalize gs k=g at hr1 hk2
    generalize hs k=h at hr2 hk2
    obtain⟨gp,gk,gc⟩:=g
    obtain⟨hp,hk9,hc⟩:=h
    try dsimp only at hr1 hr2 hk2
    have HR1:=Lib.hid hr1
    have HR2:=Lib.hid hr2
    have HK2:=Lib.hid hk2
    clear hr1 hr2 hk2
    go_wp2_with (first|(with_reducible first|refine lld hL ?_|((first|refine lbx hL ?_|refine lal hL ?_|refine lbs hL ?_);clear hL;intro bl w1 hL)|(refine zd hL ?_;clear hL;intro w1 hL))|(refine zo HR1.out hL (by exact jQ) rfl ?_)|(refine zo HR2.out hL (by exact jQ) rfl ?_)|((with_reducible refine(HK2.out _ hL.below).mono ?_);rintro e w1 ⟨rfl,hb⟩;replace hL:=hL.grow hb;clear hb;dsimp only))
    go_roundw
    case rel=>
     refine⟨k+1,by omega,by go_num,fun j hj=>?_,hL.drop (List.nil_sublist _) (fun _ h=>h)⟩
     rcases Nat.lt_or_ge j k with h|h
     ·exact HQ.out j h
     ·obtain rfl:j=k:=by omega
      exact HA.out
    case measure=>simp[intOf];omega
  ·obtain rfl:k=sn:=by omega
   go_wp2_with (first|(with_reducible first|refine lld hL ?_|((first|refine lbx hL ?_|refine lal hL ?_|refine lbs hL ?_);clear hL;intro bl w1 hL)|(refine zd hL ?_;clear hL;intro w1 hL)))
   (try simp only[Exit.inBlock,Exit.then]);refine rt1 ?_
   exact⟨by rw[ZD HQ.out];rfl,hL.below⟩
theorem zbY (p:Pg) (is:Nat→Ins) (vs:List Res) (fs:List (List Res)):qd p is ⟨true,vs,fs⟩=if 0<vs.length+fs.length then 1 else 0:=if_pos rfl
theorem zM.at1 {E g n cap k:Nat}{cs:List Value}{p:Option Addr}{l:List Sl}(h:zM E 1 p n cap (l.flatMap Sl.row) [(g,E,cs)]) (hk:k<n):cs[k]? = some (l.getD k zn).v:=by
 have h1:=h.elem (f:=Sl.row) (fun _=>rfl) zn hk
 rw[Nat.mul_one]at h1
 have h2:((cs.drop k).take 1)[0]? = some (l.getD k zn).v:=by rw[h1];rfl
 rw[List.getElem?_take,if_pos (by decide),List.getElem?_drop,Nat.add_zero]at h2
 exact h2
theorem QG {w:World}{p:Option Addr}{n:Nat}{rs:Nat→Sl}(h:je w 1 p n (fun k=>[.slice (rs k).p (rs k).n (rs k).cap])):Y8 Tryz.prog 51 1 w p n (fun k=>(rs k).v):=by
 obtain⟨b,o,h1,h2⟩:=h.ex
 refine⟨b,o,h1,fun k hk=>?_⟩
 have h3:=zg.cell (P:=Tryz.prog) yA (h2 k hk).1 ((h2 k hk).2 0 _ rfl)
 rwa [Nat.add_zero]at h3
theorem JC (p:Pg) (is:Nat→Ins) (vs:List Res) (fs:List (List Res)):qd p is ⟨false,vs,fs⟩=if ZF p ⟨false,vs,fs⟩=true then 1 else if YK p is (vs::fs)≠0 then YK p is (vs::fs) else if ZU p is fs=true then 4 else 0:=if_neg (show ¬ (false=true) by decide)
structure Gs (w:World) (p:Option Addr) (n:Nat) (xs:Nat→Pv) (ds:Nat→Pd):Prop where
 at' : je w 3 p n (fun k=>(xs k).cells)
 pics:∀ k,k<n→zN w (xs k) (ds k)
 m:n≤9223372036854775807
theorem Gs.grow {w w' : World}{p:Option Addr}{n:Nat}{xs:Nat→Pv}{ds:Nat→Pd}(h:Gs w p n xs ds) (hb:Below w.heap.size w w'):Gs w' p n xs ds:=⟨h.at'.grow hb,fun k hk=>(h.pics k hk).grow hb,h.m⟩
end Go.Proofs.YtplcndmdkabmeaaGreatDoor
