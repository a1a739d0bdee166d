/-  -/
import Derived.Lib.ItoaLen
import Derived.Lib.AtoiTie
import Derived.Lib.AtoiAllCases
import Derived.Lib.SplitLaws
import Derived.Lib.Strings
import Derived.Test.YtplcndmdkabmeaaGreatDoorCod
import Derived.Test.YtplcndmdkabmeaaGreatDoorCop
set_option linter.unusedSimpArgs false
set_option linter.unusedVariables false
set_option maxRecDepth 100000
namespace Go.Proofs.YtplcndmdkabmeaaGreatDoor
open Go.RowKit
def numB (l:List UInt8):Bool:=match Lib.atoiAll l with|.ok n=>decide (l.length≤11)&&decide (Lib.itoa n=l)|_=>false
def numV (l:List UInt8):Int:=match Lib.atoiAll l with|.ok n=>n|.range=>Lib.atoiSat l|_=>0
theorem numV_bounds (l:List UInt8):-9223372036854775808≤numV l∧numV l≤9223372036854775807:=by
 unfold numV
 split
 ·rename_i h;exact Lib.atoiAll_bounds h
 ·exact Lib.atoiSat_bounds l
 ·decide
end Go.Proofs.YtplcndmdkabmeaaGreatDoor
set_option linter.unusedSimpArgs false
set_option linter.unusedVariables false
set_option maxRecDepth 100000
namespace Go.Proofs.YtplcndmdkabmeaaGreatDoor
open Go.RowKit
def pieces (c:UInt8):List UInt8→List (List UInt8)
 | []=>[[]]
 | b::r=>if b=c then []::pieces c r else match pieces c r with|p::ps=>(b::p)::ps|[]=>[[b]]
theorem pieces_ne (c:UInt8):∀ s,pieces c s≠[]
 | []=>by simp[pieces]
 | b::r=>by
  unfold pieces
  split
  ·simp
  ·split<;>simp
theorem pieces_cons {c b:UInt8}{r:List UInt8}(h:b≠c):∃ p ps,pieces c r=p::ps∧pieces c (b::r)=(b::p)::ps:=by
 cases hp:pieces c r with
 | nil=>exact absurd hp (pieces_ne c r)
 | cons p ps=>exact⟨p,ps,rfl,by rw[pieces,if_neg h,hp]⟩
theorem pieces_idx (c:UInt8):∀ s:List UInt8,(Lib.index s [c]=-1→pieces c s=[s])∧(∀ i:Nat,Lib.index s [c]=i→pieces c s=s.take i::pieces c (s.drop (i+1)))
 | []=>⟨fun _=>rfl,fun i h=>by simp[Lib.index]at h⟩
 | b::r=>by
  obtain⟨h1,h2⟩:=pieces_idx c r
  by_cases hb:b=c
  ·subst hb
   refine⟨fun h=>?_,fun i h=>?_⟩
   ·simp[Lib.index,List.isPrefixOf]at h
   ·have:i=0:=by simp[Lib.index,List.isPrefixOf]at h;omega
    subst this
    simp[pieces]
  ·have hp:[c].isPrefixOf (b::r)=false:=by
    have:(c==b)=false:=by rw[beq_eq_false_iff_ne];exact fun h=>hb h.symm
    simp[List.isPrefixOf,this]
   have hge:=Lib.index_ge r [c]
   refine⟨fun h=>?_,fun i h=>?_⟩
   ·have hm:Lib.index r [c]=-1:=by
     rw[Lib.index,hp]at h
     simp only[Bool.false_eq_true,if_false]at h
     split at h
     ·rename_i h3;simpa using h3
     ·omega
    rw[pieces,if_neg hb,h1 hm]
   ·rw[Lib.index,hp]at h
    simp only[Bool.false_eq_true,if_false]at h
    split at h
    ·omega
    ·rename_i h3
     simp at h3
     obtain⟨j,rfl⟩:∃ j,i=j+1:=⟨i - 1,by omega⟩
     rw[pieces,if_neg hb,h2 j (by omega)]
     simp
theorem pieces_split (c:UInt8):∀ (k:Nat) (s:List UInt8),Lib.count s [c]=k→Lib.splitK [c] 0 k s=pieces c s
 | 0,s,h=>by
  rcases Lib.index_spec s [c] with⟨h1,_⟩|⟨i,h1,_⟩
  ·rw[(pieces_idx c s).1 h1];rfl
  ·rw[Lib.count_hit (by simp) h1]at h;omega
 | k+1,s,h=>by
  rcases Lib.index_spec s [c] with⟨h1,_⟩|⟨i,h1,_⟩
  ·rw[Lib.count_miss h1]at h;omega
  ·rw[Lib.count_hit (by simp) h1]at h
   have hn:¬ (Lib.index s [c] == -1)=true:=by rw[h1,beq_iff_eq];omega
   rw[Lib.splitK,if_neg hn,(pieces_idx c s).2 i h1,h1]
   simp only[Int.toNat_natCast,Nat.add_zero,List.length_cons,List.length_nil,Nat.zero_add]
   rw[pieces_split c k _ (by simp only[List.length_cons,List.length_nil,Nat.zero_add]at h;omega)]
theorem split_pieces (c:UInt8) (s:ByteArray):(Lib.splitB ⟨#[c]⟩ 0 (Lib.countB s ⟨#[c]⟩) s).map (·.data.toList)=pieces c s.data.toList:=by
 rw[Lib.splitB_data]
 exact pieces_split c _ _ rfl
theorem split_strings (c:UInt8) (s:ByteArray):(Lib.splitB ⟨#[c]⟩ 0 (Lib.countB s ⟨#[c]⟩) s).map Value.string=(pieces c s.data.toList).map (fun l=>Value.string ⟨l.toArray⟩):=by
 rw[← split_pieces,List.map_map]
 refine List.map_congr_left fun x _=>?_
 simp
theorem split_count (c:UInt8) (s:ByteArray):Lib.countB s ⟨#[c]⟩+1=(pieces c s.data.toList).length:=by
 have h:=congrArg List.length (split_pieces c s)
 rw[List.length_map,Lib.splitB_all ⟨#[c]⟩ (Nat.le_refl 1) 0 _ s rfl]at h
 exact h
theorem cut_pieces (c:UInt8) (s:List UInt8):((Lib.cut s [c]).2.2=false∧pieces c s=[s]∧Lib.cut s [c]=(s,[],false))∨
  ((Lib.cut s [c]).2.2=true∧pieces c s=(Lib.cut s [c]).1::pieces c (Lib.cut s [c]).2.1∧(Lib.cut s [c]).1.length+(Lib.cut s [c]).2.1.length+1=s.length):=by
 rcases Lib.index_spec s [c] with⟨h1,_⟩|⟨i,h1,h2,_⟩
 ·refine .inl ?_
  have e:Lib.cut s [c]=(s,[],false):=by unfold Lib.cut;rw[h1,if_neg (by omega)]
  exact⟨by rw[e],(pieces_idx c s).1 h1,e⟩
 ·refine .inr ?_
  have hr:=Lib.index_room s [c] (by omega)
  simp only[List.length_cons,List.length_nil,Nat.zero_add]at hr
  have e:Lib.cut s [c]=(s.take i,s.drop (i+1),true):=by unfold Lib.cut;rw[h1,if_pos (by omega)];simp
  rw[e]
  exact⟨rfl,(pieces_idx c s).2 i h1,by simp;omega⟩
theorem pieces_len {c:UInt8}:∀ {s p:List UInt8},p∈pieces c s→p.length≤s.length
 | [],p,h=>by simp[pieces]at h;subst h;simp
 | b::r,p,h=>by
  by_cases hb:b=c
  ·subst hb
   rw[pieces,if_pos rfl]at h
   rcases List.mem_cons.1 h with rfl|h
   ·simp
   ·have:=pieces_len h;simp;omega
  ·obtain⟨q,ps,h1,h2⟩:=pieces_cons (r:=r) hb
   rw[h2]at h
   rcases List.mem_cons.1 h with rfl|h
   ·have:=pieces_len (s:=r) (p:=q) (c:=c) (by rw[h1];exact List.mem_cons_self)
    simp;omega
   ·have:=pieces_len (s:=r) (c:=c) (by rw[h1];exact List.mem_cons_of_mem _ h:p∈pieces c r)
    simp;omega
theorem pieces_count (c:UInt8):∀ s:List UInt8,(pieces c s).length≤s.length+1
 | []=>by simp[pieces]
 | b::r=>by
  have ih:=pieces_count c r
  by_cases hb:b=c
  ·subst hb;rw[pieces,if_pos rfl];simp;omega
  ·obtain⟨q,ps,h1,h2⟩:=pieces_cons (r:=r) hb
   rw[h2];rw[h1]at ih;simp at ih ⊢;omega
end Go.Proofs.YtplcndmdkabmeaaGreatDoor
set_option linter.unusedSimpArgs false
set_option linter.unusedVariables false
set_option maxRecDepth 100000
namespace Go.Proofs.YtplcndmdkabmeaaGreatDoor
open Go.RowKit
abbrev strV (l:List UInt8):Value:=.string ⟨l.toArray⟩
end Go.Proofs.YtplcndmdkabmeaaGreatDoor
set_option linter.unusedSimpArgs false
set_option linter.unusedVariables false
set_option maxRecDepth 100000
namespace Go.Proofs.YtplcndmdkabmeaaGreatDoor
open Go.RowKit
abbrev Byt:=List UInt8
def zeroI (k:Int):Ins:=⟨k,0,0,0,0,0⟩
def setC (i:Ins) (c v:Int):Ins:=if c=118 then { i with to:=v } else if c=97 then { i with a:=v } else if c=98 then { i with b:=v } else if c=103 then { i with goto:=v } else { i with n:=v }
def fillI (ns:ByteArray) (k:Int) (vs:Nat→Int):Nat→Ins
 | 0=>zeroI k
 | j+1=>setC (fillI ns k vs j) (letter ns j) (vs j)
def kindsI:List Int:=[1,2,3,4,5,6,7,8,9,10,11,12,13,14,15,16,17,18,19]
theorem mem_kinds {k:Int}:k∈kindsI↔betw k 1 19=true:=by
 simp[kindsI,betw];omega
def kindW (wd:Byt):Option Int:=kindsI.find? (fun k=>decide ((wordS k).data.toList=wd))
def wordOf (k:Int):Byt:=(wordS k).data.toList
theorem kindW_some {wd:Byt}{k:Int}(h:kindW wd=some k):betw k 1 19=true∧wordOf k=wd:=by
 have h1:=List.mem_of_find?_eq_some h
 have h2:=List.find?_some h
 exact⟨mem_kinds.1 h1,by simpa [wordOf] using h2⟩
theorem kindW_none {wd:Byt}(h:kindW wd=none):∀ k,betw k 1 19=true→wordOf k≠wd:=fun k hk=>by
 have:=List.find?_eq_none.1 h k (mem_kinds.2 hk)
 simpa [wordOf] using this
theorem words_apart:(kindsI.all fun a=>kindsI.all fun b=>decide (wordOf a=wordOf b→a=b))=true:=by decide +kernel
theorem word_inj {a b:Int}(ha:betw a 1 19=true) (hb:betw b 1 19=true) (h:wordOf a=wordOf b):a=b:=by
 have h1:=List.all_eq_true.1 words_apart a (mem_kinds.2 ha)
 have h2:=List.all_eq_true.1 h1 b (mem_kinds.2 hb)
 exact(of_decide_eq_true h2) h
theorem kindW_word {k:Int}(h:betw k 1 19=true):kindW (wordOf k)=some k:=by
 cases hk:kindW (wordOf k) with
 | none=>exact absurd rfl (kindW_none hk k h)
 | some j=>
  obtain⟨h1,h2⟩:=kindW_some hk
  rw[word_inj h1 h h2]
def instrW:List Byt→Option Ins
 | []=>none
 | wd::args=>match kindW wd with
  | none=>none
  | some k=>if args.length=(namesS k).size∧args.all numB=true then some (fillI (namesS k) k (fun j=>numV (args.getD j [])) (namesS k).size) else none
def instrD (line:Byt):Option Ins:=instrW (pieces 32 line)
def varsW:Byt:=[118,97,114,115]
def fieldsW:Byt:=[102,105,101,108,100,115]
def headW:List Byt→Option (Int × Int)
 | [a,b,c,d]=>if a=varsW∧c=fieldsW∧numB b=true∧numB d=true then some (numV b,numV d) else none
 | _=>none
def headD (line:Byt):Option (Int × Int):=headW (pieces 32 line)
def bodyD:Nat→List Byt→Except Nat (List Ins)
 | _,[]=>.ok []
 | n,[l]=>if l=[] then .ok [] else .error n
 | n,l::r=>match instrD l with
  | none=>.error n
  | some i=>match bodyD (n+1) r with
   | .ok is=>.ok (i::is)
   | .error m=>.error m
theorem bodyD_cons {n:Nat}{l:Byt}{r:List Byt}(h:r≠[]):bodyD n (l::r)=match instrD l with
  | none=>.error n
  | some i=>match bodyD (n+1) r with
   | .ok is=>.ok (i::is)
   | .error m=>.error m:=by
 cases r with
 | nil=>exact absurd rfl h
 | cons=>rfl
def linesD:List Byt→Except Nat ((Int × Int) × List Ins)
 | l::r=>if r=[] then .error 1 else match headD l with
  | none=>.error 1
  | some h=>match bodyD 2 r with
   | .ok is=>.ok (h,is)
   | .error m=>.error m
 | []=>.error 1
def parseD (s:Byt):Except Nat ((Int × Int) × List Ins):=linesD (pieces 10 s)
end Go.Proofs.YtplcndmdkabmeaaGreatDoor
