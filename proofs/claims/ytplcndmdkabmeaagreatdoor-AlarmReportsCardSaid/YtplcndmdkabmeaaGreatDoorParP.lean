/- Plain: numerals of at most eleven bytes, as strconv's Atoi and Itoa tell them and as the document does. Conditions: none. | Plain: a text cut at a sign. Conditions: none. | Strings in memory: rows of pieces, and what a string's parts are. Over any program. Conditions: none. | Plain: what a text parses to, line by line, and what a program prints as. Conditions: none. -/
import Derived.Lib.ItoaLen
import Derived.Lib.AtoiTie
import Derived.Lib.AtoiAllCases
import Derived.Lib.SplitLaws
import Derived.Lib.Strings
import Derived.Test.YtplcndmdkabmeaaGreatDoorCod
import Derived.Test.YtplcndmdkabmeaaGreatDoorCop
set_option linter.unusedSimpArgs false
set_option linter.unusedVariables false
set_option maxRecDepth 100000
namespace Go.Proofs.YtplcndmdkabmeaaGreatDoor
open Go.RowKit
def yo (l:List UInt8):Bool:=match Lib.atoiAll l with|.ok n=>decide (l.length≤11)&&decide (Lib.itoa n=l)|_=>false
def QM (l:List UInt8):Int:=match Lib.atoiAll l with|.ok n=>n|.range=>Lib.atoiSat l|_=>0
theorem Ul:∀ (l r:List UInt8) (a:Nat),Lib.decFrom a (l++r)=(Lib.decFrom a l).bind (fun m=>Lib.decFrom m r)
 | [],r,a=>rfl
 | b::l,r,a=>by
  simp only[List.cons_append,Lib.decFrom]
  cases Lib.digitVal b with
  | none=>rfl
  | some d=>exact Ul l r _
theorem XE {u:Nat}(h:u<10):Lib.digitVal (UInt8.ofNat (48+u))=some u:=by
 have e:(UInt8.ofNat (48+u)).toNat=48+u:=by rw[UInt8.toNat_ofNat'];omega
 unfold Lib.digitVal
 rw[e,if_pos (by omega)]
 congr 1
 omega
theorem Zw (u:Nat):Lib.decFrom 0 (Lib.decDigits u)=some u:=by
 induction u using Nat.strongRecOn with
 | _ u ih=>
  rw[Lib.decDigits]
  split
  ·rename_i h
   simp only[Lib.decFrom,XE h]
   congr 1
   omega
  ·rename_i h
   rw[Ul,ih (u / 10) (by omega)]
   simp only[Option.bind_some,Lib.decFrom,XE (Nat.mod_lt u (by omega))]
   congr 1
   omega
theorem JR (u:Nat):∃ c r,Lib.decDigits u=c::r∧48≤c.toNat∧c.toNat≤57:=by
 induction u using Nat.strongRecOn with
 | _ u ih=>
  rw[Lib.decDigits]
  split
  ·rename_i h
   refine⟨_,[],rfl,?_⟩
   rw[UInt8.toNat_ofNat']
   omega
  ·rename_i h
   obtain⟨c,r,e,h2⟩:=ih (u / 10) (by omega)
   exact⟨c,r++[UInt8.ofNat (48+u % 10)],by rw[e];rfl,h2⟩
theorem zdh (n:Int):Lib.atoi (Lib.itoa n)=some n:=by
 unfold Lib.itoa
 split
 ·rename_i h
  obtain⟨c,r,e,h2⟩:=JR n.natAbs
  have hd:=Zw n.natAbs
  simp only[Lib.atoi,Lib.decNat,beq_self_eq_true,if_true]
  rw[hd,e]
  simp
  omega
 ·rename_i h
  obtain⟨c,r,e,h2⟩:=JR n.toNat
  have hd:=Zw n.toNat
  rw[e]at hd ⊢
  have h45:(c==45)=false:=by rw[beq_eq_false_iff_ne];rintro rfl;exact absurd h2.1 (by decide)
  have h43:(c==43)=false:=by rw[beq_eq_false_iff_ne];rintro rfl;exact absurd h2.1 (by decide)
  simp only[Lib.atoi,h45,h43,Lib.decNat,hd,List.isEmpty_cons]
  simp
  omega
theorem zai {n:Int}(h:(Lib.itoa n).length≤18):Lib.atoiAll (Lib.itoa n)=.ok n:=by
 rw[Lib.atoiAll_short _ h,zdh];rfl
theorem zaj {l:List UInt8}:yo l=true↔l.length≤11∧∃ n,Lib.itoa n=l:=by
 unfold yo
 constructor
 ·intro h
  split at h
  ·simp at h;exact⟨h.1,_,h.2⟩
  ·cases h
 ·rintro⟨h,n,rfl⟩
  rw[zai (by omega)]
  simpa using h
theorem zdi {n:Int}(h:(Lib.itoa n).length≤18):QM (Lib.itoa n)=n:=by
 unfold QM;rw[zai h]
theorem zak (l:List UInt8):-9223372036854775808≤QM l∧QM l≤9223372036854775807:=by
 unfold QM
 split
 ·rename_i h;exact Lib.atoiAll_bounds h
 ·exact Lib.atoiSat_bounds l
 ·decide
def QN (l:List UInt8):List UInt8:=if l.head? = some 45 then l.tail else l
def Zd (l:List UInt8) (m:Nat):Int:=if l.head? = some 45 then -(m:Int) else m
def Ze (l:List UInt8):Bool:=if QN l=[]∨11<l.length then false else match Lib.decFrom 0 (QN l) with|none=>false|some m=>decide (Lib.itoa (Zd l m)=l)
def yT (l:List UInt8):Int:=if QN l=[]∨11<l.length then 0 else match Lib.decFrom 0 (QN l) with|none=>0|some m=>Zd l m
theorem zal (n:Int):QN (Lib.itoa n)≠[]∧∃ m,Lib.decFrom 0 (QN (Lib.itoa n))=some m∧Zd (Lib.itoa n) m=n:=by
 unfold Lib.itoa
 split
 ·rename_i h
  obtain⟨c,r,e,h2⟩:=JR n.natAbs
  refine⟨by simp[QN,e],n.natAbs,by simpa [QN] using Zw n.natAbs,?_⟩
  simp[Zd]
  omega
 ·rename_i h
  obtain⟨c,r,e,h2⟩:=JR n.toNat
  have h45:¬ c=45:=by rintro rfl;exact absurd h2.1 (by decide)
  have hd:=Zw n.toNat
  rw[e]at hd ⊢
  have ht:QN (c::r)=c::r:=by simp[QN,h45]
  refine⟨by rw[ht];simp,n.toNat,by rw[ht];exact hd,?_⟩
  simp[Zd,h45]
  omega
theorem zch (l:List UInt8):Ze l=yo l:=by
 rw[Bool.eq_iff_iff,zaj]
 constructor
 ·intro h
  unfold Ze at h
  split at h
  ·cases h
  ·rename_i h1
   split at h
   ·cases h
   ·rename_i m hm
    exact⟨by omega,_,by simpa using h⟩
 ·rintro⟨h,n,rfl⟩
  obtain⟨h1,m,h2,h3⟩:=zal n
  unfold Ze
  rw[if_neg (by rintro(h4|h4);exact h1 h4;omega),h2]
  simp[h3]
theorem Vx {l:List UInt8}(h:yo l=true):yT l=QM l:=by
 obtain⟨h,n,rfl⟩:=zaj.1 h
 obtain⟨h1,m,h2,h3⟩:=zal n
 rw[zdi (by omega)]
 unfold yT
 rw[if_neg (by rintro(h4|h4);exact h1 h4;omega),h2]
 exact h3
def zE (c:UInt8):List UInt8→List (List UInt8)
 | []=>[[]]
 | b::r=>if b=c then []::zE c r else match zE c r with|p::ps=>(b::p)::ps|[]=>[[b]]
theorem jK (c:UInt8):∀ s,zE c s≠[]
 | []=>by simp[zE]
 | b::r=>by
  unfold zE
  split
  ·simp
  ·split<;>simp
theorem Z3 {c b:UInt8}{r:List UInt8}(h:b≠c):∃ p ps,zE c r=p::ps∧zE c (b::r)=(b::p)::ps:=by
 cases hp:zE c r with
 | nil=>exact absurd hp (jK c r)
 | cons p ps=>exact⟨p,ps,rfl,by rw[zE,if_neg h,hp]⟩
theorem Jt (c:UInt8):∀ s:List UInt8,(Lib.index s [c]=-1→zE c s=[s])∧(∀ i:Nat,Lib.index s [c]=i→zE c s=s.take i::zE c (s.drop (i+1)))
 | []=>⟨fun _=>rfl,fun i h=>by simp[Lib.index]at h⟩
 | b::r=>by
  obtain⟨h1,h2⟩:=Jt c r
  by_cases hb:b=c
  ·subst hb
   refine⟨fun h=>?_,fun i h=>?_⟩
   ·simp[Lib.index,List.isPrefixOf]at h
   ·have:i=0:=by simp[Lib.index,List.isPrefixOf]at h;omega
    subst this
    simp[zE]
  ·have hp:[c].isPrefixOf (b::r)=false:=by
    have:(c==b)=false:=by rw[beq_eq_false_iff_ne];exact fun h=>hb h.symm
    simp[List.isPrefixOf,this]
   have hge:=Lib.index_ge r [c]
   refine⟨fun h=>?_,fun i h=>?_⟩
   ·have hm:Lib.index r [c]=-1:=by
     rw[Lib.index,hp]at h
     simp only[Bool.false_eq_true,if_false]at h
     split at h
     ·rename_i h3;simpa using h3
     ·omega
    rw[zE,if_neg hb,h1 hm]
   ·rw[Lib.index,hp]at h
    simp only[Bool.false_eq_true,if_false]at h
    split at h
    ·omega
    ·rename_i h3
     simp at h3
     obtain⟨j,rfl⟩:∃ j,i=j+1:=⟨i - 1,by omega⟩
     rw[zE,if_neg hb,h2 j (by omega)]
     simp
theorem Kw (c:UInt8):∀ (k:Nat) (s:List UInt8),Lib.count s [c]=k→Lib.splitK [c] 0 k s=zE c s
 | 0,s,h=>by
  rcases Lib.index_spec s [c] with⟨h1,_⟩|⟨i,h1,_⟩
  ·rw[(Jt c s).1 h1];rfl
  ·rw[Lib.count_hit (by simp) h1]at h;omega
 | k+1,s,h=>by
  rcases Lib.index_spec s [c] with⟨h1,_⟩|⟨i,h1,_⟩
  ·rw[Lib.count_miss h1]at h;omega
  ·rw[Lib.count_hit (by simp) h1]at h
   have hn:¬ (Lib.index s [c] == -1)=true:=by rw[h1,beq_iff_eq];omega
   rw[Lib.splitK,if_neg hn,(Jt c s).2 i h1,h1]
   simp only[Int.toNat_natCast,Nat.add_zero,List.length_cons,List.length_nil,Nat.zero_add]
   rw[Kw c k _ (by simp only[List.length_cons,List.length_nil,Nat.zero_add]at h;omega)]
theorem Kx (c:UInt8) (s:ByteArray):(Lib.splitB ⟨#[c]⟩ 0 (Lib.countB s ⟨#[c]⟩) s).map (·.data.toList)=zE c s.data.toList:=by
 rw[Lib.splitB_data]
 exact Kw c _ _ rfl
theorem V1 (c:UInt8) (s:ByteArray):(Lib.splitB ⟨#[c]⟩ 0 (Lib.countB s ⟨#[c]⟩) s).map Value.string=(zE c s.data.toList).map (fun l=>Value.string ⟨l.toArray⟩):=by
 rw[← Kx,List.map_map]
 refine List.map_congr_left fun x _=>?_
 simp
theorem zam (c:UInt8) (s:ByteArray):Lib.countB s ⟨#[c]⟩+1=(zE c s.data.toList).length:=by
 have h:=congrArg List.length (Kx c s)
 rw[List.length_map,Lib.splitB_all ⟨#[c]⟩ (Nat.le_refl 1) 0 _ s rfl]at h
 exact h
theorem zbx (c:UInt8) (s:List UInt8):((Lib.cut s [c]).2.2=false∧zE c s=[s]∧Lib.cut s [c]=(s,[],false))∨
  ((Lib.cut s [c]).2.2=true∧zE c s=(Lib.cut s [c]).1::zE c (Lib.cut s [c]).2.1∧(Lib.cut s [c]).1.length+(Lib.cut s [c]).2.1.length+1=s.length):=by
 rcases Lib.index_spec s [c] with⟨h1,_⟩|⟨i,h1,h2,_⟩
 ·refine .inl ?_
  have e:Lib.cut s [c]=(s,[],false):=by unfold Lib.cut;rw[h1,if_neg (by omega)]
  exact⟨by rw[e],(Jt c s).1 h1,e⟩
 ·refine .inr ?_
  have hr:=Lib.index_room s [c] (by omega)
  simp only[List.length_cons,List.length_nil,Nat.zero_add]at hr
  have e:Lib.cut s [c]=(s.take i,s.drop (i+1),true):=by unfold Lib.cut;rw[h1,if_pos (by omega)];simp
  rw[e]
  exact⟨rfl,(Jt c s).2 i h1,by simp;omega⟩
theorem yz {c:UInt8}:∀ {s p:List UInt8},p∈zE c s→p.length≤s.length
 | [],p,h=>by simp[zE]at h;subst h;simp
 | b::r,p,h=>by
  by_cases hb:b=c
  ·subst hb
   rw[zE,if_pos rfl]at h
   rcases List.mem_cons.1 h with rfl|h
   ·simp
   ·have:=yz h;simp;omega
  ·obtain⟨q,ps,h1,h2⟩:=Z3 (r:=r) hb
   rw[h2]at h
   rcases List.mem_cons.1 h with rfl|h
   ·have:=yz (s:=r) (p:=q) (c:=c) (by rw[h1];exact List.mem_cons_self)
    simp;omega
   ·have:=yz (s:=r) (c:=c) (by rw[h1];exact List.mem_cons_of_mem _ h:p∈zE c r)
    simp;omega
theorem yd (c:UInt8):∀ s:List UInt8,(zE c s).length≤s.length+1
 | []=>by simp[zE]
 | b::r=>by
  have ih:=yd c r
  by_cases hb:b=c
  ·subst hb;rw[zE,if_pos rfl];simp;omega
  ·obtain⟨q,ps,h1,h2⟩:=Z3 (r:=r) hb
   rw[h2];rw[h1]at ih;simp at ih ⊢;omega
abbrev yM (l:List UInt8):Value:=.string ⟨l.toArray⟩
def Gf (p:List UInt8):List (List UInt8)→List (List UInt8)
 | q::qs=>(p++q)::qs
 | []=>[p]
theorem zan (c:UInt8) (r:List UInt8):zE c (c::r)=[]::zE c r:=by rw[zE,if_pos rfl]
theorem Gg {c b:UInt8}{r:List UInt8}(h:b≠c):zE c (b::r)=Gf [b] (zE c r):=by
 obtain⟨p,ps,h1,h2⟩:=Z3 (r:=r) h
 rw[h2,h1];rfl
theorem zao {c:UInt8}{s:List UInt8}:Gf [] (zE c s)=zE c s:=by
 cases h:zE c s with
 | nil=>exact absurd h (jK c s)
 | cons q qs=>rfl
theorem zdj {c:UInt8}{s p q:List UInt8}:Gf p (Gf q (zE c s))=Gf (p++q) (zE c s):=by
 cases h:zE c s with
 | nil=>exact absurd h (jK c s)
 | cons x xs=>simp[Gf]
theorem zeu {l:List UInt8}{f k:Nat}(hf:f≤k) (hk:k<l.length):(l.drop f).take (k+1 - f)=(l.drop f).take (k - f)++[l[k]]:=by
 rw[show k+1 - f=(k - f)+1 by omega,List.take_add_one]
 congr 1
 rw[List.getElem?_drop,show f+(k - f)=k by omega,List.getElem?_eq_getElem hk]
 rfl
theorem zci {l:List UInt8}{k:Nat}(hk:k<l.length):l.drop k=l[k]::l.drop (k+1):=List.drop_eq_getElem_cons hk
theorem Um (s:ByteArray) (f k:Nat):s.extract f k=⟨((s.data.toList.drop f).take (k - f)).toArray⟩:=by
 apply ByteArray.ext
 apply Array.toList_inj.1
 simp[ByteArray.data_extract,List.extract_eq_take_drop]
theorem zev {s:ByteArray}{k:Nat}(h:k<s.size):s[k]=s.data.toList[k]'(by rw[Array.length_toList];exact h):=rfl
theorem zcj (a b:ByteArray):(a.toList==b.toList)=decide (a.data.toList=b.data.toList):=by
 rw[Lib.toList_data,Lib.toList_data,Bool.eq_iff_iff]
 simp
theorem zck {a b:UInt8}:((a.toNat:Int)=(b.toNat:Int))↔a=b:=⟨fun h=>UInt8.toNat_inj.1 (by omega),fun h=>by rw[h]⟩
abbrev Byt:=List UInt8
def Qn (k:Int):Ins:=⟨k,0,0,0,0,0⟩
def zap (i:Ins) (c v:Int):Ins:=if c=118 then { i with to:=v } else if c=97 then { i with a:=v } else if c=98 then { i with b:=v } else if c=103 then { i with goto:=v } else { i with n:=v }
def QO (ns:ByteArray) (k:Int) (vs:Nat→Int):Nat→Ins
 | 0=>Qn k
 | j+1=>zap (QO ns k vs j) (qE ns j) (vs j)
def Vy:List Int:=[1,2,3,4,5,6,7,8,9,10,11,12,13,14,15,16,17,18,19]
theorem Yr {k:Int}:k∈Vy↔z6 k 1 19=true:=by
 simp[Vy,z6];omega
def Un (wd:Byt):Option Int:=Vy.find? (fun k=>decide ((Qv k).data.toList=wd))
def qQ (k:Int):Byt:=(Qv k).data.toList
theorem Y5 {wd:Byt}{k:Int}(h:Un wd=some k):z6 k 1 19=true∧qQ k=wd:=by
 have h1:=List.mem_of_find?_eq_some h
 have h2:=List.find?_some h
 exact⟨Yr.1 h1,by simpa [qQ] using h2⟩
theorem zby {wd:Byt}(h:Un wd=none):∀ k,z6 k 1 19=true→qQ k≠wd:=fun k hk=>by
 have:=List.find?_eq_none.1 h k (Yr.2 hk)
 simpa [qQ] using this
theorem zaq:(Vy.all fun a=>Vy.all fun b=>decide (qQ a=qQ b→a=b))=true:=by decide +kernel
theorem zew {a b:Int}(ha:z6 a 1 19=true) (hb:z6 b 1 19=true) (h:qQ a=qQ b):a=b:=by
 have h1:=List.all_eq_true.1 zaq a (Yr.2 ha)
 have h2:=List.all_eq_true.1 h1 b (Yr.2 hb)
 exact(of_decide_eq_true h2) h
theorem Vz {k:Int}(h:z6 k 1 19=true):Un (qQ k)=some k:=by
 cases hk:Un (qQ k) with
 | none=>exact absurd rfl (zby hk k h)
 | some j=>
  obtain⟨h1,h2⟩:=Y5 hk
  rw[zew h1 h h2]
def Qo:List Byt→Option Ins
 | []=>none
 | wd::args=>match Un wd with
  | none=>none
  | some k=>if args.length=(zK k).size∧args.all yo=true then some (QO (zK k) k (fun j=>QM (args.getD j [])) (zK k).size) else none
def jZ (line:Byt):Option Ins:=Qo (zE 32 line)
def jG:Byt:=[118,97,114,115]
def qD:Byt:=[102,105,101,108,100,115]
def JS:List Byt→Option (Int × Int)
 | [a,b,c,d]=>if a=jG∧c=qD∧yo b=true∧yo d=true then some (QM b,QM d) else none
 | _=>none
def Ju (line:Byt):Option (Int × Int):=JS (zE 32 line)
def Qp:Nat→List Byt→Except Nat (List Ins)
 | _,[]=>.ok []
 | n,[l]=>if l=[] then .ok [] else .error n
 | n,l::r=>match jZ l with
  | none=>.error n
  | some i=>match Qp (n+1) r with
   | .ok is=>.ok (i::is)
   | .error m=>.error m
theorem Jv {n:Nat}{l:Byt}{r:List Byt}(h:r≠[]):Qp n (l::r)=match jZ l with
  | none=>.error n
  | some i=>match Qp (n+1) r with
   | .ok is=>.ok (i::is)
   | .error m=>.error m:=by
 cases r with
 | nil=>exact absurd rfl h
 | cons=>rfl
def Z4:List Byt→Except Nat ((Int × Int) × List Ins)
 | l::r=>if r=[] then .error 1 else match Ju l with
  | none=>.error 1
  | some h=>match Qp 2 r with
   | .ok is=>.ok (h,is)
   | .error m=>.error m
 | []=>.error 1
def jw (s:Byt):Except Nat ((Int × Int) × List Ins):=Z4 (zE 10 s)
theorem VA {ns:ByteArray}{k:Int}{vs ws:Nat→Int}:∀ {j:Nat},(∀ t,t<j→vs t=ws t)→QO ns k vs j=QO ns k ws j
 | 0,_=>rfl
 | j+1,h=>by rw[QO,QO,VA (fun t ht=>h t (by omega)),h j (by omega)]
end Go.Proofs.YtplcndmdkabmeaaGreatDoor
