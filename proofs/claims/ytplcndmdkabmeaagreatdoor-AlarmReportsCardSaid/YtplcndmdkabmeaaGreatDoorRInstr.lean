/- The walk over the reference's InstrOf: the instruction of a line. Conditions: the line is not too long. -/
import Derived.Test.YtplcndmdkabmeaaGreatDoorRUnd
import Derived.Test.YtplcndmdkabmeaaGreatDoorParP2
import Derived.Test.YtplcndmdkabmeaaGreatDoorPrg
import Derived.Test.YtplcndmdkabmeaaGreatDoorGua
set_option linter.unusedSimpArgs false
set_option linter.unusedVariables false
set_option maxRecDepth 100000
set_option maxHeartbeats 1600000
namespace Go.Proofs.YtplcndmdkabmeaaGreatDoor
open Go.RowKit
theorem Xu (w0:World) (ba bn:Nat) (is:Bool) (a:Nat) (ha:a≤1000) (p:Option Addr) (cap:Nat) (ns:List Int) (X:zj) (R K:List zj) (hn:ns.length≤1000000) (hR:zM 3 1 p ns.length cap (ns.map (Value.int .i64)) R) (w:World)
  (hL:Loc w0 w ((ba,3,[.int .i64 a])::X::(bn,37,[.slice p ns.length cap])::(R++K)) []):
  Calls Tryz.prog 72 #[.bool is,.pointer (some ⟨ba,0,none⟩),.pointer (some ⟨bn,0,none⟩)] w fun e w'=>e=.returned (.int .i64 (qh ns is a).1)∧Loc w0 w' ((ba,3,[.int .i64 ((qh ns is a).2:Int)])::X::(bn,37,[.slice p ns.length cap])::(R++K)) []:=by
 cases is with
 | false=>
  have HT:=Lib.hid (show qh ns false a=(0,a) by simp[qh])
  rw[HT.out]
  go_enter Tryz.func72,Tryz.ntmps72
  go_wp2
  refine rt1 ?_
  exact⟨rfl,hL⟩
 | true=>
  by_cases hlt:a<ns.length
  ·have HT:=Lib.hid (show qh ns true a=(ns.getD a 0,a+1) by simp[qh,hlt])
   rw[HT.out]
   obtain⟨h1,h2⟩:=hR
   rcases h2 with⟨h3,_⟩|⟨g,cs,rfl,rfl,h3,h4,hcs,htk⟩
   ·omega
   have HRD:=Lib.hid (show cs[a]? = some (.int .i64 (ns.getD a 0)) by
    have h5:(ns.map (Value.int .i64))[a]? = some (.int .i64 (ns.getD a 0)):=by
     rw[List.getElem?_map,List.getD_eq_getElem?_getD,List.getElem?_eq_getElem hlt];rfl
    rw[← htk,List.getElem?_take]at h5
    split at h5
    ·exact h5
    ·cases h5)
   simp only[List.cons_append,List.nil_append]at hL ⊢
   clear h1 hcs htk
   go_enter Tryz.func72,Tryz.ntmps72
   go_wp2_with (first|(refine zR (b:=g) hL jB rfl cIn (ze.cell QQ (HRD.out)) ?_)|(with_reducible first|refine lld hL ?_|(refine zd hL ?_;clear hL;intro w1 hL)))
   refine rt1 ?_
   exact⟨by simp[hlt],hL⟩
  ·have HT:=Lib.hid (show qh ns true a=(0,99) by simp[qh,hlt])
   rw[HT.out]
   go_enter Tryz.func72,Tryz.ntmps72
   go_wp2_with (first|(with_reducible first|refine lld hL ?_|(refine zd hL ?_;clear hL;intro w1 hL)))
   refine rt1 ?_
   exact⟨rfl,hL⟩
theorem zgG:Qb Tryz.prog 37 [.slice none 0 0]:=⟨by kernel_rfl⟩
theorem zg7:Qb Tryz.prog 3 [.int .i64 0]:=⟨by kernel_rfl⟩
theorem G2 {ns:List Int}{is:Bool}{a m:Nat}(h:a≤m) (hm:99≤m):(qh ns is a).2≤m+1:=by
 unfold qh
 split
 ·show a+1≤_;omega
 ·cases is
  ·show a≤_;omega
  ·show 99≤_;omega
theorem zfn {ns:List Int}{k:Int}(h:k=13):JY ns k=(⟨k,(qh ns (nTo k) 0).1,(qh ns (nA k) (qh ns (nTo k) 0).2).1,(qh ns (nB k) (qh ns true (qh ns (nA k) (qh ns (nTo k) 0).2).2).2).1,(qh ns true (qh ns (nA k) (qh ns (nTo k) 0).2).2).1,(qh ns (QR k) (qh ns (nB k) (qh ns true (qh ns (nA k) (qh ns (nTo k) 0).2).2).2).2).1⟩,
  (qh ns (QR k) (qh ns (nB k) (qh ns true (qh ns (nA k) (qh ns (nTo k) 0).2).2).2).2).2):=by
 unfold JY
 simp only[if_pos h]
theorem zeb {ns:List Int}{k:Int}(h:¬k=13):JY ns k=(⟨k,(qh ns (nTo k) 0).1,(qh ns (nA k) (qh ns (nTo k) 0).2).1,(qh ns (nB k) (qh ns (nA k) (qh ns (nTo k) 0).2).2).1,(qh ns (nN k) (qh ns (nB k) (qh ns (nA k) (qh ns (nTo k) 0).2).2).2).1,(qh ns (QR k) (qh ns (nN k) (qh ns (nB k) (qh ns (nA k) (qh ns (nTo k) 0).2).2).2).2).1⟩,
  (qh ns (QR k) (qh ns (nN k) (qh ns (nB k) (qh ns (nA k) (qh ns (nTo k) 0).2).2).2).2).2):=by
 unfold JY
 simp only[if_neg h]
theorem zM.blk {E:TypeId}{z:Nat}{p:Option Addr}{n cap:Nat}{xs:List Value}{R:List zj}(h:zM E z p n cap xs R) (hn:0<n):∃ g cs,p=some ⟨g,0,none⟩∧R=[(g,E,cs)]∧n≤cap∧cs.take (n*z)=xs:=by
 rcases h.2 with⟨h1,_⟩|⟨g,cs,h1,h2,h3,_,_,h4⟩
 ·omega
 ·exact⟨g,cs,h1,h2,h3,h4⟩
theorem qW {cs:List Value}{ps:List Byt}(h:cs.take (ps.length*1)=ps.map yM) {k:Nat}(hk:k<ps.length):cs[k]? = some (yM (ps.getD k [])):=by
 have h5:(ps.map yM)[k]? = some (yM (ps.getD k [])):=by
  rw[List.getElem?_map,List.getD_eq_getElem?_getD,List.getElem?_eq_getElem hk];rfl
 rw[← h,List.getElem?_take]at h5
 split at h5
 ·exact h5
 ·cases h5
theorem zbd (l:Byt) (hl:l.length≤1000000) (w:World):
  Calls Tryz.prog 37 #[yM l] w fun e w'=>e=.returned (.tuple #[.int .i64 (yT l),.bool (Ze l)])∧Below w.heap.size w w':=by
 have h:=Gl ⟨l.toArray⟩ (by show l.toArray.size≤_;simpa using hl) w
 simpa using h
theorem zbe {wd:Byt}{args:List Byt}(h:args.all yo=false):Qo (wd::args)=none:=by
 unfold Qo
 dsimp only
 cases Un wd with
 | none=>rfl
 | some k=>
  dsimp only
  rw[if_neg (fun h2=>by rw[h2.2]at h;cases h)]
theorem zcW {wd:Byt}{args:List Byt}(h:∀ k,z6 k 1 19=true→qQ k≠wd):Qo (wd::args)=none:=by
 unfold Qo
 dsimp only
 cases hk:Un wd with
 | none=>rfl
 | some k=>
  obtain⟨h1,h2⟩:=Y5 hk
  exact absurd h2 (h k h1)
theorem zbf {k:Int}(hk:z6 k 1 19=true) {args:List Byt}(ha:args.all yo=true):(Qo (qQ k::args)).isSome=decide ((JY (args.map yT) k).2=args.length)∧(∀ j,Qo (qQ k::args)=some j→(JY (args.map yT) k).1=j):=by
 have hns:args.map yT=args.map QM:=List.map_congr_left (fun p hp=>Vx (List.all_eq_true.1 ha p hp))
 obtain⟨h1,h2⟩:=ze3 hk (args.map QM)
 rw[hns]
 rw[List.length_map]at h1 h2
 unfold Qo
 dsimp only
 rw[Vz hk]
 dsimp only
 by_cases hl:args.length=(zK k).size
 ·rw[if_pos ⟨hl,ha⟩,h1 hl]
  refine⟨by simp,fun j hj=>?_⟩
  have:=Option.some.inj hj
  rw[← this]
  show QO _ _ _ _=_
  refine VA (fun t ht=>?_)
  have ht2:t<args.length:=by omega
  simp only[List.getD_eq_getElem?_getD,List.getElem?_map,List.getElem?_eq_getElem ht2,Option.map_some,Option.getD_some]
 ·rw[if_neg (fun h=>hl h.1)]
  exact⟨by simp[h2 hl],fun j hj=>by cases hj⟩
theorem zbg (s:ByteArray) (hs:s.size≤1000000) (w:World):
  Calls Tryz.prog 38 #[.string s] w fun e w'=>∃ i:Ins,e=.returned (.tuple #[i.v,.bool (jZ s.data.toList).isSome])∧(∀ j,jZ s.data.toList=some j→i=j)∧Below w.heap.size w w':=by
 have hsz:s.data.toList.length≤1000000:=by rw[Array.length_toList];exact hs
 have HC:=Lib.hid (fun w'=>VF s 32 32 rfl hs w')
 have HLN:=Lib.hid (fun p (hp:p∈zE 32 s.data.toList)=>Nat.le_trans (yz hp) hsz)
 have HPC:=Lib.hid (Nat.le_trans (yd 32 s.data.toList) (Nat.succ_le_succ hsz))
 unfold jZ
 cases hps:zE 32 s.data.toList with
 | nil=>exact absurd hps (jK _ _)
 | cons wd args=>
 rw[hps]at HC HLN HPC
 have hal:args.length≤1000000:=by have:=HPC.out;simpa using this
 clear hps hsz HPC
 generalize hres:Qo (wd::args)=res
 have HRES:=Lib.hid hres
 clear hres
 have hL:=Loc.start w
 go_enter Tryz.func38,Tryz.ntmps38
 go_wp2_with (first|(go_at_call 36;refine(HC.out _).mono ?_;rintro e w3 ⟨p1,n1,cap1,R1,rfl,hR1,hq⟩;replace hL:=hL.gave hq;clear hq;simp only[List.nil_append,List.append_nil,List.cons_append]at hL;dsimp only)|((with_reducible refine KQ (T:=37) hL jB zgG ?_);clear hL;intro b5 w1 hL)|((with_reducible refine lal hL ?_);clear hL;intro b2 w1 hL))
 obtain rfl:n1=args.length+1:=by have:=hR1.1;simpa using this.symm
 obtain⟨g1,cs1,rfl,rfl,-,htk⟩:=hR1.blk (Nat.succ_pos _)
 have HTK:=Lib.hid (fun k (hk:k<args.length+1)=>qW (ps:=wd::args) htk hk)
 clear hR1 htk
 go_loopw [6] (fun c wr=>∃ (k:Nat) (pN:Option Addr) (capN:Nat) (RN:List zj),k≤args.length∧c=.int .i64 ((k+1:Nat):Int)∧(∀ t,t<k→yo (args.getD t [])=true)∧zM 3 1 pN k capN (((args.take k).map yT).map (Value.int .i64)) RN∧Loc w wr ((b5,37,[.slice pN k capN])::(b2,86,(Qn 0).cells)::(g1,9,cs1)::RN) []) (fun c _=>args.length+1 - (intOf c).toNat)
 case atStart=>exact⟨0,none,0,[],Nat.zero_le _,rfl,fun t ht=>absurd ht (Nat.not_lt_zero t),zM.nil,hL⟩
 case round=>
  clear hL
  obtain⟨k,pN,capN,RN,hk,rfl,hall,hRN,hL⟩:=hrel
  have HALL:=Lib.hid hall
  have HRN:=Lib.hid hRN
  clear hall hRN
  by_cases hlt:k<args.length
  ·have HRD:=Lib.hid (HTK.out (k+1) (by omega))
   have hu:=zbd (args.getD k []) (HLN.out _ (List.mem_cons_of_mem _ (by rw[List.getD_eq_getElem?_getD,List.getElem?_eq_getElem hlt];exact List.getElem_mem hlt)))
   rw[zch]at hu
   have HNX:=Lib.hid (show ((args.take (k+1)).map yT).map (Value.int .i64)=((args.take k).map yT).map (Value.int .i64)++[.int .i64 (yT (args.getD k []))] by
    rw[List.take_add_one,List.getElem?_eq_getElem hlt,List.map_append,List.map_append,List.getD_eq_getElem?_getD,List.getElem?_eq_getElem hlt];rfl)
   rw[show (wd::args).getD (k+1) []=args.getD k [] from rfl]at HRD
   have hone:yo (args.getD k [])=false→args.all yo=false:=fun h=>by
    rw[List.all_eq_false]
    refine⟨args[k],List.getElem_mem hlt,?_⟩
    rw[List.getD_eq_getElem?_getD,List.getElem?_eq_getElem hlt,Option.getD_some]at h
    rw[h];decide
   have HONE:=Lib.hid hone
   cases hq:yo (args.getD k []) with
   | false=>
    rw[hq]at hu
    have HR0:=Lib.hid (show res=none by rw[← HRES.out];exact zbe (HONE.out hq))
    generalize args.getD k []=ak at hu HRD
    have HU:=Lib.hid hu
    clear hu hq hone HONE HNX
    go_wp2_with (first|(go_at_call 37;refine(HU.out _).mono ?_;rintro e w1 ⟨rfl,hb⟩;replace hL:=hL.grow hb;clear hb;dsimp only)|(refine zR (b:=g1) hL jB rfl cIn (ze.cell j0 (HRD.out)) ?_)|(with_reducible refine zd hL ?_;clear hL;intro w1 hL))
    refine rt2 ?_
    exact⟨Qn 0,by rw[HR0.out];rfl,fun j h=>(by rw[HR0.out]at h;cases h),hL.below⟩
   | true=>
    rw[hq]at hu
    have HQ:=Lib.hid hq
    have HU:=Lib.hid hu
    clear hu hq hone HONE
    generalize hak:args.getD k []=ak at HU HRD HNX
    have HAK:=Lib.hid hak
    clear hak
    go_wp2_with (first|(go_at_call 37;refine(HU.out _).mono ?_;rintro e w1 ⟨rfl,hb⟩;replace hL:=hL.grow hb;clear hb;dsimp only)|(refine zR (b:=g1) hL jB rfl cIn (ze.cell j0 (HRD.out)) ?_)|(refine zz (z:=[.int .i64 0]) (K:=_::_::_::_::[]) (R:=RN) (news:=[.int .i64 (yT ak)]) HRN.out hL rfl rfl rfl Qr Z8 (by decide) rfl (fun _=>⟨⟨bl,0,none⟩,rfl,fun j u hj=>by rw[zH,Nat.zero_add];exact zF (hL.heap cIn) j hj⟩) rfl (by simp[Value.oneCell']) (by have:maxLen=9223372036854775807:=rfl;omega) (by omega) ?_;clear hL;intro p5 cap5 R5 w5 hS5 hL;simp only[List.cons_append,List.nil_append]at hL;have HS5:=Lib.hid hS5;clear hS5)|(with_reducible first|refine lld hL ?_|(refine lbs hL ?_;clear hL;intro bl w1 hL)|(refine zd hL ?_;clear hL;intro w1 hL)))
    go_roundw
    case rel=>
     refine⟨k+1,p5,cap5,R5,by omega,by go_num,fun t ht=>?_,by rw[HNX.out];exact HS5.out,hL.drop (.cons _ (List.Sublist.refl _)) (fun _ h=>h)⟩
     rcases Nat.lt_or_ge t k with h|h
     ·exact HALL.out t h
     ·obtain rfl:t=k:=by omega
      exact HQ.out
    case measure=>simp[intOf];omega
  ·obtain rfl:k=args.length:=by omega
   rw[List.take_length]at HRN
   have HAB:=Lib.hid (show args.all yo=true by
    rw[List.all_eq_true]
    intro p hp
    obtain⟨t,ht,rfl⟩:=List.mem_iff_getElem.1 hp
    have:=HALL.out t ht
    rw[List.getD_eq_getElem?_getD,List.getElem?_eq_getElem ht]at this
    exact this)
   have HYES:=Lib.hid (fun k (hk:z6 k 1 19=true) (hw:qQ k=wd)=>(by
    have h:=zbf hk HAB.out
    rw[hw,HRES.out]at h
    exact h:res.isSome=decide ((JY (args.map yT) k).2=args.length)∧(∀ j,res=some j→(JY (args.map yT) k).1=j)))
   have HNO:=Lib.hid (fun (h:∀ k,z6 k 1 19=true→qQ k≠wd)=>(by rw[← HRES.out];exact zcW h:res=none))
   obtain⟨ns,hns⟩:∃ ns,ns=args.map yT:=⟨_,rfl⟩
   have hnl:ns.length=args.length:=by rw[hns,List.length_map]
   rw[← hns]at HRN HYES
   have HRD0:=Lib.hid (HTK.out 0 (Nat.succ_pos _))
   rw[show (wd::args).getD 0 []=wd from rfl]at HRD0
   clear hns HALL hk HLN HC
   rw[← hnl]at HRN HYES hL
   have HNL:=Lib.hid (show ns.length≤1000000 by omega)
   have HNE:=Lib.hid hnl
   clear hnl
   go_wp2
   go_loopw [9] (fun c wr=>∃ k:Nat,1≤k∧k≤20∧c=.int .i64 k∧(∀ j:Int,z6 j 1 19=true→j<k→qQ j≠wd)∧Loc w wr ((b5,37,[.slice pN ns.length capN])::(b2,86,(Qn 0).cells)::(g1,9,cs1)::RN) []) (fun c _=>20 - (intOf c).toNat)
   case atStart=>exact⟨1,by decide,by decide,rfl,fun j hj hlt=>(by simp[z6]at hj;omega),hL⟩
   case round=>
    clear hL
    obtain⟨k,hk1,hk2,rfl,hno,hL⟩:=hrel
    have HNOK:=Lib.hid hno
    clear hno
    rcases (show k=20∨k≤19 by omega) with rfl|hk19
    ·have HR0:=Lib.hid (HNO.out (fun j hj=>HNOK.out j hj (by simp[z6]at hj;omega)))
     go_wp2_with (first|(with_reducible refine zd hL ?_;clear hL;intro w1 hL))
     refine rt2 ?_
     exact⟨Qn 0,by rw[HR0.out];rfl,fun j h=>(by rw[HR0.out]at h;cases h),hL.below⟩
    ·have hkb:z6 (k:Int) 1 19=true:=by simp[z6];omega
     have HKB:=Lib.hid hkb
     clear hkb
     go_upto_region 13 with(fail)
     refine zf [40,41,42,43,44,45] ?_
     refine dv0 ?_
     apply zb
     ·intro g w hb v;replace hL:=hL.grow hb;have d0:=yv v 0;clear v;simp only[za,fLa,fLb,sTa,sTb];simp only[d0]
      go_wp2_with (go_at_call 71;refine(K1 _ _).mono ?_;rintro e w3 ⟨rfl,hb3⟩;dsimp only)
      exact⟨rfl,_,rfl,hb3,rfl⟩
     simp only[apN,apC]
     refine dv0 ?_
     refine dv1 2 ?_
     apply zb
     ·intro g w hb v;replace hL:=hL.grow hb;have d3:=yv v 3;clear v;simp only[za,fLa,fLb,sTa,sTb];simp only[d3]
      refine zR (b:=g1) hL rfl rfl cIn (ze.cell j0 (HRD0.out)) ?_
      exact cY
     simp only[apN,apC]
     refine dv2 1 4 ?_
     refine dnd hL ?_
     clear hL;intro w2 hL;simp only[zV,sTa,sTb]
     cases hm:decide (qQ (k:Int)=wd) with
     | false=>
      have HM:=Lib.hid (of_decide_eq_false hm)
      have hwb:((Qv (k:Int)).toList==wd)=false:=by rw[Lib.toList_data,beq_eq_false_iff_ne];exact HM.out
      simp only[hwb,Bool.not_false]
      clear hm hwb
      go_wp2
      go_roundw
      case rel=>
       refine⟨k+1,by omega,by omega,by go_num,fun j hj hlt=>?_,hL⟩
       rcases Int.lt_or_le j k with h|h
       ·exact HNOK.out j hj h
       ·obtain rfl:j=(k:Int):=by omega
        exact HM.out
      case measure=>simp[intOf];omega
     | true=>
      have hm2:=of_decide_eq_true hm
      have hwb:((Qv (k:Int)).toList==wd)=true:=by rw[Lib.toList_data,show (Qv (k:Int)).data.toList=wd from hm2];exact beq_self_eq_true _
      simp only[hwb,Bool.not_true]
      obtain⟨hy1,hy2⟩:=HYES.out k HKB.out hm2
      have HY1:=Lib.hid hy1
      have HY2:=Lib.hid hy2
      clear hm hm2 hwb hy1 hy2 HYES HNO HNOK
      replace hL:=hL.perm (L':=(b5,37,[.slice pN ns.length capN])::(RN++[(b2,86,(Qn 0).cells),(g1,9,cs1)])) (List.Perm.cons _ (List.perm_append_comm (l₁:=RN) (l₂:=[(b2,86,(Qn 0).cells),(g1,9,cs1)])))
      go_upto_region 17 with(first|((with_reducible refine KQ (T:=3) hL jB zg7 ?_);clear hL;intro b11 w1 hL)|((with_reducible refine lal hL ?_);clear hL;intro b10 w1 hL)|(with_reducible refine zd hL ?_;clear hL;intro w1 hL))
      replace hL:Loc w w1 ((b11,3,[.int .i64 ((0:Nat):Int)])::(b10,86,(Qn k).cells)::(b5,37,[.slice pN ns.length capN])::(RN++[(b2,86,(Qn 0).cells),(g1,9,cs1)])) []:=hL
      by_cases h13:(k:Int)=13
      ·have h13a:((k:Int)==13)=true:=by rw[h13];rfl
       have h13b:((k:Int) != 13)=false:=by rw[h13];rfl
       have H13:=Lib.hid h13
       clear h13
       go_upto_region 25 with(first|(go_at_call 72;refine(Xu _ b11 b5 _ _ ?_ pN capN ns _ RN _ HNL.out HRN.out _ hL).mono ?_;(case refine_1=>repeat (first|exact Nat.zero_le _|refine G2 ?_ (by decide)));rintro e w3 ⟨rfl,hL2⟩;replace hL:=hL2;clear hL2;dsimp only)|(go_at_call 73;refine(Ja _ _).mono ?_;rintro e w1 ⟨rfl,hb⟩;replace hL:=hL.grow hb;clear hb;dsimp only)|(go_at_call 74;refine(qe _ _).mono ?_;rintro e w1 ⟨rfl,hb⟩;replace hL:=hL.grow hb;clear hb;dsimp only)|(go_at_call 75;refine(qg _ _).mono ?_;rintro e w1 ⟨rfl,hb⟩;replace hL:=hL.grow hb;clear hb;dsimp only)|(go_at_call 76;refine(Ya _ _).mono ?_;rintro e w1 ⟨rfl,hb⟩;replace hL:=hL.grow hb;clear hb;dsimp only)|(go_at_call 77;refine(Qt _ _).mono ?_;rintro e w1 ⟨rfl,hb⟩;replace hL:=hL.grow hb;clear hb;dsimp only)|(with_reducible refine zd hL ?_;clear hL;intro w1 hL))
       have hL2:Loc w w1 [(b11,3,[.int .i64 ((JY ns k).2:Int)]),(b10,86,(JY ns k).1.cells),(b5,37,[.slice pN ns.length capN]),(b2,86,[.int .i64 0,.int .i64 0,.int .i64 0,.int .i64 0,.int .i64 0,.int .i64 0])] []:=by
        rw[zfn H13.out]
        exact hL.drop (.cons_cons _ (.cons_cons _ (.cons_cons _ ((List.Sublist.cons_cons _ (List.nil_sublist _)).trans (List.sublist_append_right RN _))))) (fun _ h=>h)
       clear hL
       replace hL:=hL2
       clear hL2
       generalize JY ns (k:Int)=q at hL HY1 HY2
       obtain⟨⟨ik,ito,ia,ib,iN,ig⟩,tt⟩:=q
       dsimp only[Act.put]at hL HY1 HY2 ⊢
       have h0:=hL.conv (L':=(fun l=>[(b11,3,[.int .i64 (tt:Int)]),(b10,86,[.int .i64 ik,.int .i64 ito,.int .i64 ia,.int .i64 ib,.int .i64 iN,.int .i64 ig]),(b5,37,[.slice pN ns.length capN]),(b2,86,[bif lst l 5 then (.int .i64 ik) else (.int .i64 0),bif lst l 5 then (.int .i64 ito) else (.int .i64 0),bif lst l 5 then (.int .i64 ia) else (.int .i64 0),bif lst l 5 then (.int .i64 ib) else (.int .i64 0),bif lst l 5 then (.int .i64 iN) else (.int .i64 0),bif lst l 5 then (.int .i64 ig) else (.int .i64 0)])]) (Array.replicate 7 false)) (by simp only[Zy,cond_false])
       refine Jy (w0:=_) [81,82,83,84,85,3] [(0,81,.agg #[.int .i64 ik,.int .i64 ito,.int .i64 ia,.int .i64 ib,.int .i64 iN,.int .i64 ig]),(1,82,.int .i64 (tt:Int)),(2,83,.slice pN ns.length capN),(3,84,.int .i64 (ns.length:Int)),(4,85,.bool ((tt:Int)==(ns.length:Int))),(6,3,.bool ((tt:Int)==(ns.length:Int)))] (fun l=>[(b11,3,[.int .i64 (tt:Int)]),(b10,86,[.int .i64 ik,.int .i64 ito,.int .i64 ia,.int .i64 ib,.int .i64 iN,.int .i64 ig]),(b5,37,[.slice pN ns.length capN]),(b2,86,[bif lst l 5 then (.int .i64 ik) else (.int .i64 0),bif lst l 5 then (.int .i64 ito) else (.int .i64 0),bif lst l 5 then (.int .i64 ia) else (.int .i64 0),bif lst l 5 then (.int .i64 ib) else (.int .i64 0),bif lst l 5 then (.int .i64 iN) else (.int .i64 0),bif lst l 5 then (.int .i64 ig) else (.int .i64 0)])]) (by kernel_rfl) (by kernel_rfl) h0 ⟨?_,?_,?_,?_,?_,?_,?_,trivial⟩ ?_
       all_goals clear hL h0
       ·intro l g w hi hI v
        have hL:=hI.loc
        try dsimp only at hL
        refine zP (d:=81) (x:=.agg #[.int .i64 ik,.int .i64 ito,.int .i64 ia,.int .i64 ib,.int .i64 iN,.int .i64 ig]) (by kernel_rfl) cMm hI (by simp only[zc (show (5:Nat)≠0 by decide)]) ?_
        clear v
        simp only[za,fLa,fLb,sTa,sTb]
        go_wp2_with (first|(with_reducible refine lld hL ?_)|(with_reducible refine ldD hL ?_))
        exact cY
       ·intro l g w hi hI v
        have hL:=hI.loc
        try dsimp only at hL
        refine zP (d:=82) (x:=.int .i64 (tt:Int)) (by kernel_rfl) cMm hI (by simp only[zc (show (5:Nat)≠1 by decide)]) ?_
        clear v
        simp only[za,fLa,fLb,sTa,sTb]
        go_wp2_with (first|(with_reducible refine lld hL ?_)|(with_reducible refine ldD hL ?_))
        exact cY
       ·intro l g w hi hI v
        have hL:=hI.loc
        try dsimp only at hL
        refine zP (d:=83) (x:=.slice pN ns.length capN) (by kernel_rfl) cMm hI (by simp only[zc (show (5:Nat)≠2 by decide)]) ?_
        clear v
        simp only[za,fLa,fLb,sTa,sTb]
        go_wp2_with (first|(with_reducible refine lld hL ?_)|(with_reducible refine ldD hL ?_))
        exact cY
       ·intro l g w hi hI v
        have hL:=hI.loc
        try dsimp only at hL
        have d2:=hI.vals (2,83,.slice pN ns.length capN) cMm (v 2 (by decide))
        try dsimp only at d2
        refine zP (d:=84) (x:=.int .i64 (ns.length:Int)) (by kernel_rfl) cMm hI (by simp only[zc (show (5:Nat)≠3 by decide)]) ?_
        clear v
        simp only[za,fLa,fLb,sTa,sTb]
        simp only[d2]
        go_wp2
        exact cY
       ·intro l g w hi hI v
        have hL:=hI.loc
        try dsimp only at hL
        have d1:=hI.vals (1,82,.int .i64 (tt:Int)) cMm (v 1 (by decide))
        try dsimp only at d1
        have d3:=hI.vals (3,84,.int .i64 (ns.length:Int)) cMm (v 3 (by decide))
        try dsimp only at d3
        refine zP (d:=85) (x:=.bool ((tt:Int)==(ns.length:Int))) (by kernel_rfl) cMm hI (by simp only[zc (show (5:Nat)≠4 by decide)]) ?_
        clear v
        simp only[za,fLa,fLb,sTa,sTb]
        simp only[d1,d3]
        go_wp2
        exact cY
       ·intro l g w hi hI v
        have hL:=hI.loc
        try dsimp only at hL
        have d0:=hI.vals (0,81,.agg #[.int .i64 ik,.int .i64 ito,.int .i64 ia,.int .i64 ib,.int .i64 iN,.int .i64 ig]) cMm (v 0 (by decide))
        try dsimp only at d0
        refine JT (i:=5) (L:=[(b11,3,[.int .i64 (tt:Int)]),(b10,86,[.int .i64 ik,.int .i64 ito,.int .i64 ia,.int .i64 ib,.int .i64 iN,.int .i64 ig]),(b5,37,[.slice pN ns.length capN]),(b2,86,[(.int .i64 ik),(.int .i64 ito),(.int .i64 ia),(.int .i64 ib),(.int .i64 iN),(.int .i64 ig)])]) hI (by kernel_rfl) (by simp only[qO hi,cond_true]) ?_
        clear v
        simp only[za,fLa,fLb,sTa,sTb]
        simp only[d0]
        ((with_reducible refine zd hL ?_);clear hL;intro w1 hL)
        exact⟨rfl,rfl,hL⟩
       ·intro l g w hi hI v
        have hL:=hI.loc
        try dsimp only at hL
        have d4:=hI.vals (4,85,.bool ((tt:Int)==(ns.length:Int))) cMm (v 4 (by decide))
        try dsimp only at d4
        refine zP (d:=3) (x:=.bool ((tt:Int)==(ns.length:Int))) (by kernel_rfl) cMm hI (by simp only[zc (show (5:Nat)≠6 by decide)]) ?_
        clear v
        simp only[za,fLa,fLb,sTa,sTb]
        simp only[d4]
        go_wp2
        exact cY
       intro g w2 l hl hL hX
       simp only[hl 5 (by decide),cond_true]at hL
       have e0:=hX (0,81,.agg #[.int .i64 ik,.int .i64 ito,.int .i64 ia,.int .i64 ib,.int .i64 iN,.int .i64 ig]) cMm (show (0:Nat)<7 by decide)
       have e1:=hX (1,82,.int .i64 (tt:Int)) cMm (show (1:Nat)<7 by decide)
       have e2:=hX (2,83,.slice pN ns.length capN) cMm (show (2:Nat)<7 by decide)
       have e3:=hX (3,84,.int .i64 (ns.length:Int)) cMm (show (3:Nat)<7 by decide)
       have e4:=hX (4,85,.bool ((tt:Int)==(ns.length:Int))) cMm (show (4:Nat)<7 by decide)
       have e6:=hX (6,3,.bool ((tt:Int)==(ns.length:Int))) cMm (show (6:Nat)<7 by decide)
       try dsimp only at e0 e1 e2 e3 e4 e6
       clear hX hl
       simp only[za,fLa,fLb,sTa,sTb]
       simp only[e0,e1,e2,e3,e4,e6]
       clear e0 e1 e2 e3 e4 e6
       go_wp2
       refine rt2 ?_
       refine⟨⟨ik,ito,ia,ib,iN,ig⟩,?_,HY2.out,hL.below⟩
       rw[HY1.out,show ((tt:Int)==(ns.length:Int))=decide (tt=ns.length) by rw[Bool.eq_iff_iff,beq_iff_eq,decide_eq_true_eq];omega]
       rfl
      ·have h13a:((k:Int)==13)=false:=by rw[beq_eq_false_iff_ne];exact h13
       have h13b:((k:Int) != 13)=true:=by rw[bne_iff_ne];exact h13
       have H13:=Lib.hid h13
       clear h13
       go_upto_region 25 with(first|(go_at_call 72;refine(Xu _ b11 b5 _ _ ?_ pN capN ns _ RN _ HNL.out HRN.out _ hL).mono ?_;(case refine_1=>repeat (first|exact Nat.zero_le _|refine G2 ?_ (by decide)));rintro e w3 ⟨rfl,hL2⟩;replace hL:=hL2;clear hL2;dsimp only)|(go_at_call 73;refine(Ja _ _).mono ?_;rintro e w1 ⟨rfl,hb⟩;replace hL:=hL.grow hb;clear hb;dsimp only)|(go_at_call 74;refine(qe _ _).mono ?_;rintro e w1 ⟨rfl,hb⟩;replace hL:=hL.grow hb;clear hb;dsimp only)|(go_at_call 75;refine(qg _ _).mono ?_;rintro e w1 ⟨rfl,hb⟩;replace hL:=hL.grow hb;clear hb;dsimp only)|(go_at_call 76;refine(Ya _ _).mono ?_;rintro e w1 ⟨rfl,hb⟩;replace hL:=hL.grow hb;clear hb;dsimp only)|(go_at_call 77;refine(Qt _ _).mono ?_;rintro e w1 ⟨rfl,hb⟩;replace hL:=hL.grow hb;clear hb;dsimp only)|(with_reducible refine zd hL ?_;clear hL;intro w1 hL))
       have hL2:Loc w w1 [(b11,3,[.int .i64 ((JY ns k).2:Int)]),(b10,86,(JY ns k).1.cells),(b5,37,[.slice pN ns.length capN]),(b2,86,[.int .i64 0,.int .i64 0,.int .i64 0,.int .i64 0,.int .i64 0,.int .i64 0])] []:=by
        rw[zeb H13.out]
        exact hL.drop (.cons_cons _ (.cons_cons _ (.cons_cons _ ((List.Sublist.cons_cons _ (List.nil_sublist _)).trans (List.sublist_append_right RN _))))) (fun _ h=>h)
       clear hL
       replace hL:=hL2
       clear hL2
       generalize JY ns (k:Int)=q at hL HY1 HY2
       obtain⟨⟨ik,ito,ia,ib,iN,ig⟩,tt⟩:=q
       dsimp only[Act.put]at hL HY1 HY2 ⊢
       have h0:=hL.conv (L':=(fun l=>[(b11,3,[.int .i64 (tt:Int)]),(b10,86,[.int .i64 ik,.int .i64 ito,.int .i64 ia,.int .i64 ib,.int .i64 iN,.int .i64 ig]),(b5,37,[.slice pN ns.length capN]),(b2,86,[bif lst l 5 then (.int .i64 ik) else (.int .i64 0),bif lst l 5 then (.int .i64 ito) else (.int .i64 0),bif lst l 5 then (.int .i64 ia) else (.int .i64 0),bif lst l 5 then (.int .i64 ib) else (.int .i64 0),bif lst l 5 then (.int .i64 iN) else (.int .i64 0),bif lst l 5 then (.int .i64 ig) else (.int .i64 0)])]) (Array.replicate 7 false)) (by simp only[Zy,cond_false])
       refine Jy (w0:=_) [81,82,83,84,85,3] [(0,81,.agg #[.int .i64 ik,.int .i64 ito,.int .i64 ia,.int .i64 ib,.int .i64 iN,.int .i64 ig]),(1,82,.int .i64 (tt:Int)),(2,83,.slice pN ns.length capN),(3,84,.int .i64 (ns.length:Int)),(4,85,.bool ((tt:Int)==(ns.length:Int))),(6,3,.bool ((tt:Int)==(ns.length:Int)))] (fun l=>[(b11,3,[.int .i64 (tt:Int)]),(b10,86,[.int .i64 ik,.int .i64 ito,.int .i64 ia,.int .i64 ib,.int .i64 iN,.int .i64 ig]),(b5,37,[.slice pN ns.length capN]),(b2,86,[bif lst l 5 then (.int .i64 ik) else (.int .i64 0),bif lst l 5 then (.int .i64 ito) else (.int .i64 0),bif lst l 5 then (.int .i64 ia) else (.int .i64 0),bif lst l 5 then (.int .i64 ib) else (.int .i64 0),bif lst l 5 then (.int .i64 iN) else (.int .i64 0),bif lst l 5 then (.int .i64 ig) else (.int .i64 0)])]) (by kernel_rfl) (by kernel_rfl) h0 ⟨?_,?_,?_,?_,?_,?_,?_,trivial⟩ ?_
       all_goals clear hL h0
       ·intro l g w hi hI v
        have hL:=hI.loc
        try dsimp only at hL
        refine zP (d:=81) (x:=.agg #[.int .i64 ik,.int .i64 ito,.int .i64 ia,.int .i64 ib,.int .i64 iN,.int .i64 ig]) (by kernel_rfl) cMm hI (by simp only[zc (show (5:Nat)≠0 by decide)]) ?_
        clear v
        simp only[za,fLa,fLb,sTa,sTb]
        go_wp2_with (first|(with_reducible refine lld hL ?_)|(with_reducible refine ldD hL ?_))
        exact cY
       ·intro l g w hi hI v
        have hL:=hI.loc
        try dsimp only at hL
        refine zP (d:=82) (x:=.int .i64 (tt:Int)) (by kernel_rfl) cMm hI (by simp only[zc (show (5:Nat)≠1 by decide)]) ?_
        clear v
        simp only[za,fLa,fLb,sTa,sTb]
        go_wp2_with (first|(with_reducible refine lld hL ?_)|(with_reducible refine ldD hL ?_))
        exact cY
       ·intro l g w hi hI v
        have hL:=hI.loc
        try dsimp only at hL
        refine zP (d:=83) (x:=.slice pN ns.length capN) (by kernel_rfl) cMm hI (by simp only[zc (show (5:Nat)≠2 by decide)]) ?_
        clear v
        simp only[za,fLa,fLb,sTa,sTb]
        go_wp2_with (first|(with_reducible refine lld hL ?_)|(with_reducible refine ldD hL ?_))
        exact cY
       ·intro l g w hi hI v
        have hL:=hI.loc
        try dsimp only at hL
        have d2:=hI.vals (2,83,.slice pN ns.length capN) cMm (v 2 (by decide))
        try dsimp only at d2
        refine zP (d:=84) (x:=.int .i64 (ns.length:Int)) (by kernel_rfl) cMm hI (by simp only[zc (show (5:Nat)≠3 by decide)]) ?_
        clear v
        simp only[za,fLa,fLb,sTa,sTb]
        simp only[d2]
        go_wp2
        exact cY
       ·intro l g w hi hI v
        have hL:=hI.loc
        try dsimp only at hL
        have d1:=hI.vals (1,82,.int .i64 (tt:Int)) cMm (v 1 (by decide))
        try dsimp only at d1
        have d3:=hI.vals (3,84,.int .i64 (ns.length:Int)) cMm (v 3 (by decide))
        try dsimp only at d3
        refine zP (d:=85) (x:=.bool ((tt:Int)==(ns.length:Int))) (by kernel_rfl) cMm hI (by simp only[zc (show (5:Nat)≠4 by decide)]) ?_
        clear v
        simp only[za,fLa,fLb,sTa,sTb]
        simp only[d1,d3]
        go_wp2
        exact cY
       ·intro l g w hi hI v
        have hL:=hI.loc
        try dsimp only at hL
        have d0:=hI.vals (0,81,.agg #[.int .i64 ik,.int .i64 ito,.int .i64 ia,.int .i64 ib,.int .i64 iN,.int .i64 ig]) cMm (v 0 (by decide))
        try dsimp only at d0
        refine JT (i:=5) (L:=[(b11,3,[.int .i64 (tt:Int)]),(b10,86,[.int .i64 ik,.int .i64 ito,.int .i64 ia,.int .i64 ib,.int .i64 iN,.int .i64 ig]),(b5,37,[.slice pN ns.length capN]),(b2,86,[(.int .i64 ik),(.int .i64 ito),(.int .i64 ia),(.int .i64 ib),(.int .i64 iN),(.int .i64 ig)])]) hI (by kernel_rfl) (by simp only[qO hi,cond_true]) ?_
        clear v
        simp only[za,fLa,fLb,sTa,sTb]
        simp only[d0]
        ((with_reducible refine zd hL ?_);clear hL;intro w1 hL)
        exact⟨rfl,rfl,hL⟩
       ·intro l g w hi hI v
        have hL:=hI.loc
        try dsimp only at hL
        have d4:=hI.vals (4,85,.bool ((tt:Int)==(ns.length:Int))) cMm (v 4 (by decide))
        try dsimp only at d4
        refine zP (d:=3) (x:=.bool ((tt:Int)==(ns.length:Int))) (by kernel_rfl) cMm hI (by simp only[zc (show (5:Nat)≠6 by decide)]) ?_
        clear v
        simp only[za,fLa,fLb,sTa,sTb]
        simp only[d4]
        go_wp2
        exact cY
       intro g w2 l hl hL hX
       simp only[hl 5 (by decide),cond_true]at hL
       have e0:=hX (0,81,.agg #[.int .i64 ik,.int .i64 ito,.int .i64 ia,.int .i64 ib,.int .i64 iN,.int .i64 ig]) cMm (show (0:Nat)<7 by decide)
       have e1:=hX (1,82,.int .i64 (tt:Int)) cMm (show (1:Nat)<7 by decide)
       have e2:=hX (2,83,.slice pN ns.length capN) cMm (show (2:Nat)<7 by decide)
       have e3:=hX (3,84,.int .i64 (ns.length:Int)) cMm (show (3:Nat)<7 by decide)
       have e4:=hX (4,85,.bool ((tt:Int)==(ns.length:Int))) cMm (show (4:Nat)<7 by decide)
       have e6:=hX (6,3,.bool ((tt:Int)==(ns.length:Int))) cMm (show (6:Nat)<7 by decide)
       try dsimp only at e0 e1 e2 e3 e4 e6
       clear hX hl
       simp only[za,fLa,fLb,sTa,sTb]
       simp only[e0,e1,e2,e3,e4,e6]
       clear e0 e1 e2 e3 e4 e6
       go_wp2
       refine rt2 ?_
       refine⟨⟨ik,ito,ia,ib,iN,ig⟩,?_,HY2.out,hL.below⟩
       rw[HY1.out,show ((tt:Int)==(ns.length:Int))=decide (tt=ns.length) by rw[Bool.eq_iff_iff,beq_iff_eq,decide_eq_true_eq];omega]
       rfl
end Go.Proofs.YtplcndmdkabmeaaGreatDoor
