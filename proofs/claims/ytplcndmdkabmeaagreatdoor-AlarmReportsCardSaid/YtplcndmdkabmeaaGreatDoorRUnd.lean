/- The walk over the reference's Digits. Conditions: the number has at most twelve digits. | The walk over the reference's Cut: the pieces of a text between signs, as a row in new memory. Conditions: the text is not too long. | The walk over the reference's Undigit: the number that a text spells. Conditions: the text is not too long. -/
import Derived.Test.YtplcndmdkabmeaaGreatDoorCod
import Derived.Laws.IdiomStrings
import Derived.Lib.ItoaLen
import Derived.Test.YtplcndmdkabmeaaGreatDoorParP
import Derived.Lib.Strings
import Derived.Lib.AtoiErr
set_option linter.unusedSimpArgs false
set_option linter.unusedVariables false
set_option maxRecDepth 100000
set_option maxHeartbeats 1600000
namespace Go.Proofs.YtplcndmdkabmeaaGreatDoor
open Go.RowKit
def yO (n:Int):ByteArray:=⟨(Lib.itoa n).toArray⟩
theorem zax {n:Nat}(h:10≤n):Lib.itoa (n:Int)=Lib.itoa ((n:Int) / 10)++Lib.itoa ((n:Int) % 10):=by
 show Lib.itoa (n:Int)=Lib.itoa ((n / 10:Nat):Int)++Lib.itoa ((n % 10:Nat):Int)
 unfold Lib.itoa
 rw[if_neg (by omega),if_neg (by omega),if_neg (by omega)]
 simp only[Int.toNat_natCast]
 rw[Lib.decDigits,dif_neg (by omega),Lib.decDigits_one (i:=n % 10) (by omega)]
theorem zdo {n:Nat}(h:1≤n):Lib.itoa (-(n:Int))=45::Lib.itoa (n:Int):=by
 unfold Lib.itoa
 rw[if_pos (by omega),if_neg (by omega)]
 simp
theorem QF {n:Int}(h:-1000000000000≤n∧n≤1000000000000):(yO n).size≤21:=by
 have:=Lib.itoa_length_le n (by omega) (by omega)
 show (Lib.itoa n).toArray.size≤21
 simpa using this
theorem Q9 (a b:List UInt8):(⟨a.toArray⟩:ByteArray)++(⟨b.toArray⟩:ByteArray)=⟨(a++b).toArray⟩:=by
 apply ByteArray.ext
 simp
theorem zeD {ops:Array Oper}{Q:Exit→Act→World→Prop}{act:Act}{w:World}{rest:List Oper}{d:Option Tmp}{ty:TypeId}{pos:String}{after:Array Edge}{x:Operand}{b:Nat}{v:Int}{u:UInt8}(hx:act.eval x=.slice (some ⟨b,0,none⟩) 1 1) (hh:w.heap[b]? = some (.cells #[.int .u8 v] 5 (0,0))) (hv:v=(u.toNat:Int))
  (h:wpList Tryz.prog ops Q rest (act.put d (.string ⟨#[u]⟩)) w):wpList Tryz.prog ops Q (⟨d,.convert 90 9 x,ty,pos,after,none⟩::rest) act w:=by
 refine z8 (o:=⟨d,.convert 90 9 x,ty,pos,after,none⟩) (v:=.string ⟨#[u]⟩) (w':=w) rfl ?_ h
 have hr:=run_convert_bytes_back (P:=Tryz.prog) w 90 9 5 ⟨b,0,none⟩ 1 [u] (by kernel_rfl) (by kernel_rfl) (by kernel_rfl) (fun j hj=>by
  have h0:j=0:=by simpa using hj
  subst h0
  rw[zH]
  simp[World.cell?,hh,hv])
 have hr2:(convert 90 9 (.slice (some ⟨b,0,none⟩) 1 1)).run Tryz.prog w=.ok (.string ⟨#[u]⟩) w:=hr
 simp only[execOp,Sem.run_bind,hx]
 rw[hr2];rfl
theorem JU (m:Nat):∀ (n:Nat),n<m→n≤1000000000000→∀ w:World,Calls Tryz.prog 10 #[.int .i64 (n:Int)] w fun e w'=>e=.returned (.string (yO n))∧Below w.heap.size w w':=by
 induction m with
 | zero=>intro n h;omega
 | succ m ih=>
  intro n hn hb w
  by_cases h10:n<10
  ·have hL:=Loc.start w
   clear ih
   obtain⟨u,hu⟩:∃ u,u=UInt8.ofNat (48+n):=⟨_,rfl⟩
   have HU:=Lib.hid (show (48+(n:Int))=(u.toNat:Int) by rw[hu,UInt8.toNat_ofNat'];omega)
   have HD:=Lib.hid (show yO (n:Int)=⟨#[u]⟩ by
    unfold yO Lib.itoa
    rw[if_neg (by omega),Int.toNat_natCast,Lib.decDigits_one h10,hu])
   have hlt0:decide ((n:Int)<0)=false:=by simp
   have hlt10:decide ((n:Int)<10)=true:=by simp;omega
   clear hu
   go_enter Tryz.func10,Tryz.ntmps10
   go_wp2_with (refine zeD rfl (zI _ _) HU.out ?_)
   go_ret
   rw[HD.out]
   exact⟨rfl,(Below.refl _ _).alloc (Nat.le_refl _) _⟩
  ·have H1:=Lib.hid (fun w'=>(by have h:=ih (n / 10) (by omega) (by omega) w';exact h:Calls Tryz.prog 10 #[.int .i64 ((n:Int) / 10)] w' fun e w''=>e=.returned (.string (yO ((n:Int) / 10)))∧Below w'.heap.size w' w''))
   have H2:=Lib.hid (fun w'=>(by have h:=ih (n % 10) (by omega) (by omega) w';exact h:Calls Tryz.prog 10 #[.int .i64 ((n:Int) % 10)] w' fun e w''=>e=.returned (.string (yO ((n:Int) % 10)))∧Below w'.heap.size w' w''))
   have HD:=Lib.hid (zax (n:=n) (by omega))
   have hs1:(yO ((n:Int) / 10)).size≤21:=QF (by omega)
   have hs2:(yO ((n:Int) % 10)).size≤21:=QF (by omega)
   have hd1:decide ((n:Int)<10)=false:=by simp;omega
   have hd0:decide ((n:Int)<0)=false:=by simp
   clear ih h10
   have hL:=Loc.start w
   go_enter Tryz.func10,Tryz.ntmps10
   go_wp2_with (first|(go_at_call 10;(with_reducible refine(H1.out _).mono ?_);rintro e w3 ⟨rfl,hb⟩;replace hL:=hL.grow hb;clear hb;dsimp only)|(go_at_call 10;(with_reducible refine(H2.out _).mono ?_);rintro e w3 ⟨rfl,hb⟩;replace hL:=hL.grow hb;clear hb;dsimp only))
   go_ret
   refine⟨?_,hL.below⟩
   show Ending.returned (Value.string (yO _++yO _))=_
   unfold yO
   rw[Q9,← HD.out]
theorem JV (n:Int) (h:-1000000000000≤n∧n≤1000000000000) (w:World):
  Calls Tryz.prog 10 #[.int .i64 n] w fun e w'=>e=.returned (.string (yO n))∧Below w.heap.size w w':=by
 rcases Int.lt_or_le n 0 with h0|h0
 ·obtain⟨m,hm⟩:∃ m:Nat,n=-(m:Int):=⟨(-n).toNat,by omega⟩
  subst hm
  have hm1:1≤m:=by omega
  have HD:=Lib.hid (zdo hm1)
  by_cases h10:m<10
  ·have HP:=Lib.hid (fun w'=>(JU (m+1) m (by omega) (by omega) w' : Calls Tryz.prog 10 #[.int .i64 (m:Int)] w' fun e w''=>e=.returned (.string (yO (m:Int)))∧Below w'.heap.size w' w''))
   have hb1:0<m:=by omega
   have hml:(m:Int)<10:=by omega
   have hs1:(yO (m:Int)).size≤21:=QF (by omega)
   clear h h0 h10
   have hL:=Loc.start w
   go_enter Tryz.func10,Tryz.ntmps10
   go_wp2_with (go_at_call 10;(with_reducible refine(HP.out _).mono ?_);rintro e w3 ⟨rfl,hb⟩;replace hL:=hL.grow hb;clear hb;dsimp only)
   go_ret
   refine⟨?_,hL.below⟩
   show Ending.returned (Value.string ((⟨[45].toArray⟩:ByteArray)++yO _))=_
   unfold yO
   rw[Q9,HD.out];rfl
  ·have HP:=Lib.hid (fun w'=>(by exact JU (m / 10+1) (m / 10) (by omega) (by omega) w' : Calls Tryz.prog 10 #[.int .i64 ((m:Int) / 10)] w' fun e w''=>e=.returned (.string (yO ((m:Int) / 10)))∧Below w'.heap.size w' w''))
   have HP2:=Lib.hid (fun w'=>(by exact JU (m % 10+1) (m % 10) (by omega) (by omega) w' : Calls Tryz.prog 10 #[.int .i64 ((m:Int) % 10)] w' fun e w''=>e=.returned (.string (yO ((m:Int) % 10)))∧Below w'.heap.size w' w''))
   have HD2:=Lib.hid (zax (n:=m) (by omega))
   have hb1:0<m:=by omega
   have hs1:(yO ((m:Int) / 10)).size≤21:=QF (by omega)
   have hs2:(yO ((m:Int) % 10)).size≤21:=QF (by omega)
   have hb2:decide ((m:Int)<10)=false:=by simp;omega
   have hml:(m:Int)≤1000000000000:=by omega
   have hmg:10≤(m:Int):=by omega
   clear h h0 h10
   have hL:=Loc.start w
   go_enter Tryz.func10,Tryz.ntmps10
   go_wp2_with (first|(go_at_call 10;(with_reducible refine(HP.out _).mono ?_);rintro e w3 ⟨rfl,hb⟩;replace hL:=hL.grow hb;clear hb;dsimp only)|(go_at_call 10;(with_reducible refine(HP2.out _).mono ?_);rintro e w3 ⟨rfl,hb⟩;replace hL:=hL.grow hb;clear hb;dsimp only))
   go_ret
   refine⟨?_,hL.below⟩
   show Ending.returned (Value.string (((⟨[45].toArray⟩:ByteArray)++yO _)++yO _))=_
   unfold yO
   rw[Q9,Q9,HD.out,HD2.out];rfl
 ·obtain⟨m,rfl⟩:∃ m:Nat,n=m:=⟨n.toNat,by omega⟩
  exact JU (m+1) m (by omega) (by omega) w
set_option maxHeartbeats 1600000
theorem VF (s:ByteArray) (ci:Int) (c:UInt8) (hci:ci=(c.toNat:Int)) (hs:s.size≤1000000) (w:World):
  Calls Tryz.prog 36 #[.string s,.int .u8 ci] w fun e w'=>∃ (p:Option Addr) (n cap:Nat) (R:List zj),e=.returned (.slice p n cap)∧zM 9 1 p n cap ((zE c s.data.toList).map yM) R∧Loc w w' R []:=by
 have hln:s.data.toList.length=s.size:=Array.length_toList
 have HCI:=Lib.hid hci
 clear hci
 have hL:=Loc.start w
 go_enter Tryz.func36,Tryz.ntmps36
 go_wp2
 go_loopw [5,6,7] (fun c5 c6 c7 wr=>∃ (k f:Nat) (done:List (List UInt8)) (p:Option Addr) (n cap:Nat) (R:List zj),k≤s.size∧f≤k∧c5=.slice p n cap∧c6=.int .i64 f∧c7=.int .i64 k∧n≤k∧zE c s.data.toList=done++Gf ((s.data.toList.drop f).take (k - f)) (zE c (s.data.toList.drop k))∧zM 9 1 p n cap (done.map yM) R∧Loc w wr R []) (fun _ _ c _=>s.size - (intOf c).toNat)
 case atStart=>exact⟨0,0,[],none,0,0,[],Nat.zero_le _,Nat.le_refl _,rfl,rfl,rfl,Nat.le_refl _,by simp[zao],zM.nil,hL⟩
 case round=>
  obtain⟨k,f,done,p,n,cap,R,hk,hf,rfl,rfl,rfl,hnk,hp,hR,hL⟩:=hrel
  have HR:=Lib.hid hR
  have HP:=Lib.hid hp
  clear hR hp
  by_cases hlt:k<s.size
  ·have hkl:k<s.data.toList.length:=by omega
   by_cases hb:s.data.toList[k]=c
   ·have HB:=Lib.hid hb
    have hbe:((s[k].toNat:Int)==ci)=true:=by rw[HCI.out,zev hlt,HB.out];exact beq_self_eq_true _
    clear hb
    have HX:=Lib.hid (Um s f k)
    go_wp2_with (first|(with_reducible refine lbs hL ?_;clear hL;intro bl w1 hL)|(refine zz (z:=[.string ⟨#[]⟩]) (K:=(bl,_,_)::[]) (R:=R) (news:=[.string (s.extract f k)]) HR.out hL rfl rfl rfl zeE zgQ (by decide) rfl (fun _=>⟨⟨bl,0,none⟩,rfl,fun j u hj=>by rw[zH,Nat.zero_add];exact zF (hL.heap cIn) j hj⟩) rfl (by simp[Value.oneCell']) (by have:maxLen=9223372036854775807:=rfl;omega) (by omega) ?_;clear hL;intro p5 cap5 R5 w5 hS5 hL;simp only[List.cons_append,List.nil_append]at hL))
    go_roundw
    case rel=>
     refine⟨k+1,k+1,done++[(s.data.toList.drop f).take (k - f)],p5,n+1,cap5,R5,by omega,Nat.le_refl _,rfl,by go_num,by go_num,by omega,?_,?_,hL.drop (List.sublist_cons_self _ _) (fun _ h=>h)⟩
     ·rw[HP.out,zci hkl,HB.out,zan,Nat.sub_self,List.take_zero,zao,Gf,List.append_nil,List.append_assoc]
      rfl
     ·rw[List.map_append]
      rw[HX.out]at hS5
      exact hS5
    case measure=>simp[intOf];omega
   ·have HB:=Lib.hid hb
    have hbe:((s[k].toNat:Int)==ci)=false:=by rw[HCI.out,zev hlt,beq_eq_false_iff_ne];exact fun h=>HB.out (zck.1 h)
    clear hb
    go_wp2
    go_roundw
    case rel=>
     refine⟨k+1,f,done,p,n,cap,R,by omega,by omega,rfl,rfl,by go_num,by omega,?_,HR.out,hL⟩
     rw[HP.out,zci hkl,Gg HB.out,zdj,zeu hf hkl]
    case measure=>simp[intOf];omega
  ·obtain rfl:k=s.size:=by omega
   have HX:=Lib.hid (Um s f s.size)
   clear hlt
   go_wp2_with (first|(with_reducible refine lbs hL ?_;clear hL;intro bl w1 hL)|(refine zz (z:=[.string ⟨#[]⟩]) (K:=(bl,_,_)::[]) (R:=R) (news:=[.string (s.extract f s.size)]) HR.out hL rfl rfl rfl zeE zgQ (by decide) rfl (fun _=>⟨⟨bl,0,none⟩,rfl,fun j u hj=>by rw[zH,Nat.zero_add];exact zF (hL.heap cIn) j hj⟩) rfl (by simp[Value.oneCell']) (by have:maxLen=9223372036854775807:=rfl;omega) (by omega) ?_;clear hL;intro p5 cap5 R5 w5 hS5 hL;simp only[List.cons_append,List.nil_append]at hL))
   refine rt1 ?_
   refine⟨p5,n+1,cap5,R5,rfl,?_,hL.drop (List.sublist_cons_self _ _) (fun _ h=>h)⟩
   rw[HX.out]at hS5
   rw[HP.out,List.drop_of_length_le (Nat.le_of_eq hln),zE,Gf,List.append_nil,List.map_append]
   exact hS5
set_option maxHeartbeats 1600000
theorem Gl (s:ByteArray) (hs:s.size≤1000000) (w:World):
  Calls Tryz.prog 37 #[.string s] w fun e w'=>e=.returned (.tuple #[.int .i64 (yT s.data.toList),.bool (Ze s.data.toList)])∧Below w.heap.size w w':=by
 have hln:s.data.toList.length=s.size:=Array.length_toList
 have hL:=Loc.start w
 go_enter Tryz.func37,Tryz.ntmps37
 rcases Nat.eq_zero_or_pos s.size with h0|h0
 ·have hnil:s.data.toList=[]:=List.length_eq_zero_iff.1 (by omega)
  have he:s.toList.isEmpty=true:=by rw[Lib.toList_data,hnil];rfl
  have HV:=Lib.hid (show yT s.data.toList=0 by rw[hnil];rfl)
  have HB:=Lib.hid (show Ze s.data.toList=false by rw[hnil];rfl)
  clear hnil
  go_wp2
  (try simp only[Exit.inBlock,Exit.then]);refine rt2 ?_
  exact⟨by rw[HV.out,HB.out];rfl,hL.below⟩
 ·by_cases hb:s[0]=45
  ·have hbe:((s[0].toNat:Int)==45)=true:=by rw[hb];rfl
   have hhd:s.data.toList.head? = some 45:=by
    rw[List.head?_eq_getElem?,List.getElem?_eq_getElem (by omega)]
    exact congrArg some hb
   go_upto_region 4 with(first|(with_reducible first|refine lld hL ?_|((first|refine lbx hL ?_|refine lal hL ?_|refine lbs hL ?_);clear hL;intro bl w1 hL)|(refine zd hL ?_;clear hL;intro w1 hL)))
   clear hbe hb
   generalize hD:s.extract 1 s.size=D
   have ht:QN s.data.toList=D.data.toList:=by
    rw[← hD,Lib.extract_data,QN,if_pos hhd,← List.drop_one]
    exact(List.take_of_length_le (by rw[List.length_drop];omega)).symm
   have hsz:D.size<s.size:=by
    have:D.data.toList.length=D.size:=Array.length_toList
    rw[← this,← ht,QN,if_pos hhd,List.length_tail]
    omega
   have hsn:∀ m,Zd s.data.toList m=-(m:Int):=fun m=>by rw[Zd,if_pos hhd]
   clear hD hhd
   have HSZ:=Lib.hid hsz
   have HT:=Lib.hid ht
   have HSN:=Lib.hid hsn
   clear ht hsn hsz
   by_cases hE:QN s.data.toList=[]
   ·have he:D.toList.isEmpty=true:=by rw[Lib.toList_data,← HT.out,hE];rfl
    have HV:=Lib.hid (show yT s.data.toList=0 by unfold yT;rw[if_pos (.inl hE)])
    have HB:=Lib.hid (show Ze s.data.toList=false by unfold Ze;rw[if_pos (.inl hE)])
    clear hE
    go_wp2
    (try simp only[Exit.inBlock,Exit.then]);refine rt2 ?_
    exact⟨by rw[HV.out,HB.out];rfl,hL.below⟩
   have he:D.toList.isEmpty=false:=by rw[Lib.toList_data,← HT.out];simpa using hE
   by_cases h11:11<s.size
   ·have HV:=Lib.hid (show yT s.data.toList=0 by unfold yT;rw[if_pos (.inr (by omega))])
    have HB:=Lib.hid (show Ze s.data.toList=false by unfold Ze;rw[if_pos (.inr (by omega))])
    clear hE
    go_wp2
    (try simp only[Exit.inBlock,Exit.then]);refine rt2 ?_
    exact⟨by rw[HV.out,HB.out];rfl,hL.below⟩
   have HV:=Lib.hid (show yT s.data.toList=(match Lib.decFrom 0 D.data.toList with|none=>0|some m=>Zd s.data.toList m) by unfold yT;rw[if_neg (by rintro(h|h);exact hE h;omega),HT.out];rfl)
   have HB:=Lib.hid (show Ze s.data.toList=(match Lib.decFrom 0 D.data.toList with|none=>false|some m=>decide (Lib.itoa (Zd s.data.toList m)=s.data.toList)) by unfold Ze;rw[if_neg (by rintro(h|h);exact hE h;omega),HT.out];rfl)
   clear hE
   have hd11:D.size≤11:=by have:=HSZ.out;omega
   have hdl:D.data.toList.length=D.size:=Array.length_toList
   have h11b:decide (11<(s.size:Int))=false:=by simp;omega
   have HE:=Lib.hid he
   have H11:=Lib.hid h11
   go_upto_region 6 with(fail)
   clear he h11 h11b
   go_wp2
   go_loopw [5,6] (fun c5 c6 wr=>∃ k m:Nat,k≤D.size∧c5=.int .i64 m∧c6=.int .i64 k∧Lib.decFrom 0 (D.data.toList.take k)=some m∧m<10 ^ k∧Loc w wr [] []) (fun _ c _=>D.size - (intOf c).toNat)
   case atStart=>exact⟨0,0,Nat.zero_le _,rfl,rfl,rfl,by decide,hL⟩
   case round=>
    clear hL
    obtain⟨k,m,hk,rfl,rfl,hdec,hm,hL⟩:=hrel
    have HDEC:=Lib.hid hdec
    clear hdec
    have hpow:10 ^ k≤10 ^ 11:=Nat.pow_le_pow_right (by decide) (by omega)
    have hm11:m<100000000000:=Nat.lt_of_lt_of_le hm (Nat.le_trans hpow (by decide))
    have HM:=Lib.hid hm
    clear hm hpow
    by_cases hlt:k<D.size
    ·have hkl:k<D.data.toList.length:=by omega
     have hget:D.data.toList[k]? = some (D.data.toList[k]):=List.getElem?_eq_getElem hkl
     cases hdv:Lib.digitVal D.data.toList[k] with
     | none=>
      have HN:=Lib.hid (show Lib.decFrom 0 D.data.toList=none by
       cases hq:Lib.decFrom 0 D.data.toList with
       | none=>rfl
       | some q=>obtain⟨d,hd⟩:=Lib.digit_of_decFrom _ _ _ hq k _ hget;rw[hdv]at hd;cases hd)
      have hnd:D[k].toNat<48∨57<D[k].toNat:=Lib.digitVal_none hdv
      clear hdv hget
      rcases hnd with h48|h57
      ·have hx1:decide ((D[k].toNat:Int)<48)=true:=by simp;omega
       clear h48
       go_wp2
       (try simp only[Exit.inBlock,Exit.then]);refine rt2 ?_
       exact⟨by rw[HV.out,HB.out,HN.out];rfl,hL.below⟩
      ·have hx1:decide ((D[k].toNat:Int)<48)=false:=by simp;omega
       have hx2:decide (57<(D[k].toNat:Int))=true:=by simp;omega
       clear h57
       go_wp2
       (try simp only[Exit.inBlock,Exit.then]);refine rt2 ?_
       exact⟨by rw[HV.out,HB.out,HN.out];rfl,hL.below⟩
     | some d=>
      have HN:=Lib.hid (Lib.decFrom_take _ _ _ _ _ _ HDEC.out hget hdv)
      obtain⟨hd1,hd2,hd3⟩:=Lib.digitVal_eq hdv
      have hdd:(D[k].toNat:Int)=48+d:=by show (D.data.toList[k].toNat:Int)=_;omega
      have hd9:d≤9:=by omega
      have hx1:decide ((D[k].toNat:Int)<48)=false:=by rw[hdd];simp;omega
      have hx2:decide (57<(D[k].toNat:Int))=false:=by rw[hdd];simp;omega
      clear hdv hget hd1 hd2 hd3
      have HD:=Lib.hid hdd
      clear hdd
      go_wp2
      go_roundw
      case rel=>
       refine⟨k+1,m*10+d,by omega,?_,by go_num,HN.out,?_,hL⟩
       ·rw[HD.out,Go.IntWalk.wrap64_in (48+(d:Int)) (by omega),Go.IntWalk.wrap64_in (10*(m:Int)+(48+(d:Int))) (by omega),Go.IntWalk.wrap64_in _ (by omega)]
        congr 1
        omega
       ·have:=HM.out
        rw[Nat.pow_succ]
        omega
      case measure=>simp[intOf];omega
    ·obtain rfl:k=D.size:=by omega
     have HD:=Lib.hid (show Lib.decFrom 0 D.data.toList=some m by rw[← HDEC.out,List.take_of_length_le (Nat.le_of_eq hdl)])
     clear hlt
     have HSNE:=Lib.hid (HSN.out m)
     have HG:=Lib.hid (fun w'=>JV (-(m:Int)) (by omega) w')
     have HS1:=Lib.hid (show yT s.data.toList=(-(m:Int)) by rw[HV.out,HD.out];rw[← HSNE.out])
     have HS2:=Lib.hid (show Ze s.data.toList=decide (Lib.itoa (-(m:Int))=s.data.toList) by rw[HB.out,HD.out,← HSNE.out])
     have hwl:decide ((D.size:Int)<(s.size:Int))=true:=by have:=HSZ.out;simp;omega
     go_wp2_with (first|(go_at_call 10;(with_reducible refine(HG.out _).mono ?_);rintro e w3 ⟨rfl,hb⟩;replace hL:=hL.grow hb;clear hb;dsimp only))
     (try simp only[Exit.inBlock,Exit.then]);refine rt2 ?_
     refine⟨?_,hL.below⟩
     rw[HS1.out,HS2.out,show decide (Lib.itoa (-(m:Int))=s.data.toList)=((yO (-(m:Int))).toList==s.toList) from (zcj (yO (-(m:Int))) s).symm]
     rfl
  ·have hbe:((s[0].toNat:Int)==45)=false:=by rw[beq_eq_false_iff_ne];exact fun h=>hb (zck.1 h)
   have hhd:¬ s.data.toList.head? = some 45:=by
    rw[List.head?_eq_getElem?,List.getElem?_eq_getElem (by omega)]
    exact fun h=>hb (Option.some.inj h)
   go_upto_region 4 with(first|(with_reducible first|refine lld hL ?_|((first|refine lbx hL ?_|refine lal hL ?_|refine lbs hL ?_);clear hL;intro bl w1 hL)|(refine zd hL ?_;clear hL;intro w1 hL)))
   clear hbe hb
   have ht:QN s.data.toList=s.data.toList:=by rw[QN,if_neg hhd]
   have hsz:s.size≤s.size:=Nat.le_refl _
   have hsn:∀ m,Zd s.data.toList m=(m:Int):=fun m=>by rw[Zd,if_neg hhd]
   clear hhd
   have HSZ:=Lib.hid hsz
   have HT:=Lib.hid ht
   have HSN:=Lib.hid hsn
   clear ht hsn hsz
   by_cases hE:QN s.data.toList=[]
   ·have he:s.toList.isEmpty=true:=by rw[Lib.toList_data,← HT.out,hE];rfl
    have HV:=Lib.hid (show yT s.data.toList=0 by unfold yT;rw[if_pos (.inl hE)])
    have HB:=Lib.hid (show Ze s.data.toList=false by unfold Ze;rw[if_pos (.inl hE)])
    clear hE
    go_wp2
    (try simp only[Exit.inBlock,Exit.then]);refine rt2 ?_
    exact⟨by rw[HV.out,HB.out];rfl,hL.below⟩
   have he:s.toList.isEmpty=false:=by rw[Lib.toList_data,← HT.out];simpa using hE
   by_cases h11:11<s.size
   ·have HV:=Lib.hid (show yT s.data.toList=0 by unfold yT;rw[if_pos (.inr (by omega))])
    have HB:=Lib.hid (show Ze s.data.toList=false by unfold Ze;rw[if_pos (.inr (by omega))])
    clear hE
    go_wp2
    (try simp only[Exit.inBlock,Exit.then]);refine rt2 ?_
    exact⟨by rw[HV.out,HB.out];rfl,hL.below⟩
   have HV:=Lib.hid (show yT s.data.toList=(match Lib.decFrom 0 s.data.toList with|none=>0|some m=>Zd s.data.toList m) by unfold yT;rw[if_neg (by rintro(h|h);exact hE h;omega),HT.out];rfl)
   have HB:=Lib.hid (show Ze s.data.toList=(match Lib.decFrom 0 s.data.toList with|none=>false|some m=>decide (Lib.itoa (Zd s.data.toList m)=s.data.toList)) by unfold Ze;rw[if_neg (by rintro(h|h);exact hE h;omega),HT.out];rfl)
   clear hE
   have hd11:s.size≤11:=by have:=HSZ.out;omega
   have hdl:s.data.toList.length=s.size:=Array.length_toList
   have h11b:decide (11<(s.size:Int))=false:=by simp;omega
   have HE:=Lib.hid he
   have H11:=Lib.hid h11
   go_upto_region 6 with(fail)
   clear he h11 h11b
   go_wp2
   go_loopw [5,6] (fun c5 c6 wr=>∃ k m:Nat,k≤s.size∧c5=.int .i64 m∧c6=.int .i64 k∧Lib.decFrom 0 (s.data.toList.take k)=some m∧m<10 ^ k∧Loc w wr [] []) (fun _ c _=>s.size - (intOf c).toNat)
   case atStart=>exact⟨0,0,Nat.zero_le _,rfl,rfl,rfl,by decide,hL⟩
   case round=>
    clear hL
    obtain⟨k,m,hk,rfl,rfl,hdec,hm,hL⟩:=hrel
    have HDEC:=Lib.hid hdec
    clear hdec
    have hpow:10 ^ k≤10 ^ 11:=Nat.pow_le_pow_right (by decide) (by omega)
    have hm11:m<100000000000:=Nat.lt_of_lt_of_le hm (Nat.le_trans hpow (by decide))
    have HM:=Lib.hid hm
    clear hm hpow
    by_cases hlt:k<s.size
    ·have hkl:k<s.data.toList.length:=by omega
     have hget:s.data.toList[k]? = some (s.data.toList[k]):=List.getElem?_eq_getElem hkl
     cases hdv:Lib.digitVal s.data.toList[k] with
     | none=>
      have HN:=Lib.hid (show Lib.decFrom 0 s.data.toList=none by
       cases hq:Lib.decFrom 0 s.data.toList with
       | none=>rfl
       | some q=>obtain⟨d,hd⟩:=Lib.digit_of_decFrom _ _ _ hq k _ hget;rw[hdv]at hd;cases hd)
      have hnd:s[k].toNat<48∨57<s[k].toNat:=Lib.digitVal_none hdv
      clear hdv hget
      rcases hnd with h48|h57
      ·have hx1:decide ((s[k].toNat:Int)<48)=true:=by simp;omega
       clear h48
       go_wp2
       (try simp only[Exit.inBlock,Exit.then]);refine rt2 ?_
       exact⟨by rw[HV.out,HB.out,HN.out];rfl,hL.below⟩
      ·have hx1:decide ((s[k].toNat:Int)<48)=false:=by simp;omega
       have hx2:decide (57<(s[k].toNat:Int))=true:=by simp;omega
       clear h57
       go_wp2
       (try simp only[Exit.inBlock,Exit.then]);refine rt2 ?_
       exact⟨by rw[HV.out,HB.out,HN.out];rfl,hL.below⟩
     | some d=>
      have HN:=Lib.hid (Lib.decFrom_take _ _ _ _ _ _ HDEC.out hget hdv)
      obtain⟨hd1,hd2,hd3⟩:=Lib.digitVal_eq hdv
      have hdd:(s[k].toNat:Int)=48+d:=by show (s.data.toList[k].toNat:Int)=_;omega
      have hd9:d≤9:=by omega
      have hx1:decide ((s[k].toNat:Int)<48)=false:=by rw[hdd];simp;omega
      have hx2:decide (57<(s[k].toNat:Int))=false:=by rw[hdd];simp;omega
      clear hdv hget hd1 hd2 hd3
      have Hs:=Lib.hid hdd
      clear hdd
      go_wp2
      go_roundw
      case rel=>
       refine⟨k+1,m*10+d,by omega,?_,by go_num,HN.out,?_,hL⟩
       ·rw[Hs.out,Go.IntWalk.wrap64_in (48+(d:Int)) (by omega),Go.IntWalk.wrap64_in (10*(m:Int)+(48+(d:Int))) (by omega),Go.IntWalk.wrap64_in _ (by omega)]
        congr 1
        omega
       ·have:=HM.out
        rw[Nat.pow_succ]
        omega
      case measure=>simp[intOf];omega
    ·obtain rfl:k=s.size:=by omega
     have HD:=Lib.hid (show Lib.decFrom 0 s.data.toList=some m by rw[← HDEC.out,List.take_of_length_le (Nat.le_of_eq hdl)])
     clear hlt
     have HSNE:=Lib.hid (HSN.out m)
     have HG:=Lib.hid (fun w'=>JV (m:Int) (by omega) w')
     have HS1:=Lib.hid (show yT s.data.toList=(m:Int) by rw[HV.out,HD.out];rw[← HSNE.out])
     have HS2:=Lib.hid (show Ze s.data.toList=decide (Lib.itoa (m:Int)=s.data.toList) by rw[HB.out,HD.out,← HSNE.out])
     go_wp2_with (first|(go_at_call 10;(with_reducible refine(HG.out _).mono ?_);rintro e w3 ⟨rfl,hb⟩;replace hL:=hL.grow hb;clear hb;dsimp only))
     (try simp only[Exit.inBlock,Exit.then]);refine rt2 ?_
     refine⟨?_,hL.below⟩
     rw[HS1.out,HS2.out,show decide (Lib.itoa (m:Int)=s.data.toList)=((yO (m:Int)).toList==s.toList) from (zcj (yO (m:Int)) s).symm]
     rfl
end Go.Proofs.YtplcndmdkabmeaaGreatDoor
