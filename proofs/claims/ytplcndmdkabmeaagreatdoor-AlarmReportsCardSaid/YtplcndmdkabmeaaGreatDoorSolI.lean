/- The walks over solve.Raw and solve.Solve. Conditions: as in each theorem. | The alarms of a program, in plain words, and as they lie in memory. Conditions: none. | The walks over solve.Fits where something is wrong; pictures in memory as a list. Conditions: what they read lies in memory that was there. | The walk over solve.Fits where all is right. Conditions: right pictures, one for each place. | The walk over the law's solveBegun; handed-back pictures as one fact. Conditions: none. -/
import Derived.Test.YtplcndmdkabmeaaGreatDoorSolE
import Derived.Test.YtplcndmdkabmeaaGreatDoorSolD
import Derived.Test.YtplcndmdkabmeaaGreatDoorPicd
import Derived.Test.YtplcndmdkabmeaaGreatDoorStpc
set_option linter.unusedSimpArgs false
set_option linter.unusedVariables false
set_option maxRecDepth 100000
set_option maxHeartbeats 4000000
namespace Go.Proofs.YtplcndmdkabmeaaGreatDoor
open Go.RowKit
abbrev yk:Pv:=⟨true,zn,zn⟩
theorem zN.none (w:World):zN w yk zQ:=⟨rfl,jW.zero w _ _,QT.zero w _ _,Nat.zero_le _⟩
theorem Ye {p:Pg}{is:Nat→Ins}{nv nf:Nat}(hv:p.vars=nv) (hf:p.fields=nf):qd p is (yj nv nf p.n)=0:=by
 have hrow:∀ k,k<p.n→(yj nv nf p.n).row k=List.replicate nf QP:=fun k hk=>by
  show (List.replicate p.n (List.replicate nf QP)).getD k []=_
  rw[List.getD_eq_getElem?_getD,List.getElem?_replicate,if_pos hk]
  rfl
 refine jh.right ⟨rfl,?_,?_,fun k hk=>?_,fun g hg=>?_,fun k hk g hg=>?_,fun k hk _ g hg=>?_⟩
 ·show ((List.replicate nv Kz).length:Int)=_
  rw[List.length_replicate,hv]
 ·exact List.length_replicate
 ·rw[hrow k hk,List.length_replicate,hf]
 ·rw[(List.mem_replicate.1 hg).2]
  exact⟨by decide,fun x hx=>(by cases hx),List.Pairwise.nil⟩
 ·rw[hrow k hk]at hg
  rw[(List.mem_replicate.1 hg).2]
  exact⟨by decide,fun x hx=>(by cases hx),List.Pairwise.nil⟩
 ·rw[hrow k hk]at hg
  rw[(List.mem_replicate.1 hg).2]
  rfl
def zB (nv nf pn:Nat):List Pd:=yj nv nf pn::List.replicate pn zQ
theorem K3 (nv nf pn k:Nat):(zB nv nf pn).getD (k+1) zQ=zQ:=by
 unfold zB
 rw[List.getD_cons_succ,List.getD_eq_getElem?_getD,List.getElem?_replicate]
 split<;>rfl
theorem Yv {p:Pg}{is:Nat→Ins}{nv nf:Nat}(hv:p.vars=nv) (hf:p.fields=nf):qI p is (zB nv nf p.n):=by
 refine⟨by simp[zB],fun k hk=>?_⟩
 cases k with
 | zero=>exact Ye hv hf
 | succ k=>rw[K3];rfl
theorem zdu (nv nf pn:Nat) (r:Pv) (w:World) (h:zN w r (yj nv nf pn)):y8 (r::List.replicate pn yk) (zB nv nf pn) w:=by
 intro k hk
 cases k with
 | zero=>exact h
 | succ k=>
  rw[K3,List.getD_cons_succ,List.getD_eq_getElem?_getD,List.getElem?_replicate,if_pos (by simpa [zB] using hk)]
  exact zN.none w
theorem K4 (g:Pv):∀ n:Nat,(List.replicate n (Pv.cells g)).flatten=(List.replicate n g).flatMap Pv.cells
 | 0=>rfl
 | n+1=>by rw[List.replicate_succ,List.replicate_succ,List.flatten_cons,List.flatMap_cons,K4 g n]
def zaH (w w' : World) (s:Sl) (l:List Pd):Prop:=∃ (xs:List Pv) (R:List zj),xs.length=l.length∧zM 54 3 s.p s.n s.cap (xs.flatMap Pv.cells) R∧Loc w w' R [y8 xs l]
def zdv (wq:World) (n:Nat):Value→World→Prop:=fun v w=>∃ r,v=.slice (some ⟨r,0,none⟩) n n∧Loc wq w [(r,54,(List.replicate n yk.cells).flatten)] []
theorem zdv.stable {wq:World}{n:Nat}:jC (zdv wq n):=by
 rintro v w w' hb ⟨r,h1,h2⟩;exact⟨r,h1,h2.grow hb⟩
def zaI (wq:World) (p:Pg) (n:Nat):Value→World→Prop:=fun v w=>∃ r,v=.agg #[.int .i64 p.vars,.int .i64 p.fields,.slice p.pc p.n p.cap,.slice (some ⟨r,0,none⟩) n n]∧Loc wq w [(r,54,(List.replicate n yk.cells).flatten)] []
theorem zaI.stable {wq:World}{p:Pg}{n:Nat}:jC (zaI wq p n):=by
 rintro v w w' hb ⟨r,h1,h2⟩;exact⟨r,h1,h2.grow hb⟩
theorem zeT (p:Pg) (is:Nat→Ins) (nv nf:Nat) (hv:p.vars=nv) (hf:p.fields=nf) (hp:zl p is=0) (w:World) (hc:qc w p is):
  Calls Tryz.prog 64 #[p.v] w fun q w'=>∃ (k:Nat) (s:Sl),q=.returned (.tuple #[.slice s.p s.n s.cap,.int .i64 ((k+1:Nat):Int)])∧yG is p.n (zB nv nf p.n) k∧zaH w w' s (qZ is p.n (zB nv nf p.n) (k+1)):=by
 have hs:=(zx hp).1
 have h1:=hs.v2
 have h2:=hs.f2
 have h60:=hs.n1
 have HF:=Lib.hid (fun w'=>zdm p nv nf hv hf (by omega) (by omega) (by omega) w')
 have hb0:qI p is (zB nv nf p.n):=Yv hv hf
 have HRP:=Lib.hid (fun (b:Nat) w' hh=>(show Calls Tryz.prog 110 #[.slice (some ⟨b,0,none⟩) 1 1,.int .i64 ((p.n:Int)+1)] w' fun e w2=>∃ r,e=.returned (.slice (some ⟨r,0,none⟩) (p.n+1) (p.n+1))∧Loc w' w2 [(r,54,(List.replicate (p.n+1) yk.cells).flatten)] [] from zaa yk.cells rfl (by decide) b (p.n+1) (by omega) w' hh))
 have HRO:=Lib.hid (fun bs s0 k w' (hM:JD w p bs s0 [] (qZ is p.n (zB nv nf p.n) k) w')=>(show Calls Tryz.prog 111 #[.pointer (some ⟨bs,0,none⟩),.int .i64 ((k+1:Nat):Int)] w' (fun e w2=>e=.returned (.bool (ZO is p.n (zB nv nf p.n) k))∧JD w p bs s0 [] (qZ is p.n (zB nv nf p.n) (k+1)) w2) from (zcJ p is hp w hc bs s0 (k+1) _ (JI hp hb0 k) w' hM).mono fun e w2 h=>⟨h.1,h.2.1⟩))
 have HTOP:=Lib.hid (fun k (h:∀ j,j<k→ZO is p.n (zB nv nf p.n) j=true)=>GA hp hb0 h)
 have HST:=Lib.hid (zdu nv nf p.n)
 have HBM:=Lib.hid (Jc hp (Ye (is:=is) hv hf))
 have HLN:=Lib.hid (show (zB nv nf p.n).length=p.n+1 by simp[zB])
 have HS0:=Lib.hid (show qZ is p.n (zB nv nf p.n) 0=zB nv nf p.n from rfl)
 clear hs hb0 hc hp
 generalize yj nv nf p.n=fst at HF HST HBM
 generalize zB nv nf p.n=l0 at HRO HTOP HST HLN HS0 ⊢
 clear h1 h2
 obtain⟨pv,pf,pp,pn,pc⟩:=p
 dsimp only at hv hf h60 HRP HRO HTOP HST HLN HF HS0 ⊢
 subst hv hf
 have hL:=Loc.start w
 go_enter Tryz.func64,Tryz.ntmps64
 go_step
 go_step
 go_step
 ((with_reducible refine lbx hL ?_);clear hL;intro b1 w1 hL)
 go_upto_region 1 with(fail)
 obtain⟨wq,hwq⟩:∃ x,x=w1:=⟨_,rfl⟩
 subst hwq
 refine zf [6,7,8,9,10,11,12,13,14] ?_
 refine dv0 ?_
 apply zb
 ·intro g w hb y;replace hL:=hL.grow hb;clear y;simp only[za,fLa,fLb,sTa,sTb]
  go_wp2_with (go_at_call 101;refine(XD _).mono ?_;rintro e w3 ⟨rfl,hb3⟩;dsimp only)
  exact⟨rfl,_,rfl,(by assumption),rfl⟩
 simp only[apN,apC]
 apply Jm
 ·intro g w hb y;replace hL:=hL.grow hb;have d1:=yv y 1;clear y;simp only[za,fLa,fLb,sTa,sTb];simp only[d1]
  go_wp2
  exact⟨rfl,_,rfl,(Below.refl _ _).alloc (Nat.le_refl _) _,_,hb.size,rfl,zI _ _⟩
 simp only[apN,apC]
 refine dv0 ?_
 refine dv1 3 ?_
 refine dv1 4 ?_
 refine dv1 5 ?_
 refine zh (zdv wq (pn+1)) zdv.stable ?_ ?_
 ·intro g w hb y;replace hL:=hL.grow hb;obtain⟨b2,e2,d2,f2⟩:=yC (zA y (j:=2) (by decide)) rfl rfl;have d6:=yv y 6;clear y;simp only[za,fLa,fLb,sTa,sTb];simp only[d2,d6]
  go_wp2_with (go_at_call 110;refine(HRP.out _ _ f2).mono ?_;rintro q w3 ⟨r,rfl,hl3⟩;dsimp only)
  exact⟨rfl,_,rfl,hl3.below,r,rfl,Loc.since hb hl3⟩
 simp only[apN,apC]
 refine zh (zaI wq ⟨nv,nf,pp,pn,pc⟩ (pn+1)) zaI.stable ?_ ?_
 ·intro g w hb y;replace hL:=hL.grow hb;have d0:=yv y 0;have d7:(zdv wq (pn+1)) (g 13) w:=yr y 7;obtain⟨q7,d7,hO7⟩:=d7;clear y;simp only[za,fLa,fLb,sTa,sTb];simp only[d0,d7]
  go_wp2_with (fail)
  exact⟨rfl,_,rfl,Below.refl _ _,q7,rfl,hO7⟩
 simp only[apN,apC]
 refine zO hL (by kernel_rfl) (by kernel_rfl) ?_
 intro g w2 hb hR;simp only[List.length_cons,List.length_nil,Nat.reduceAdd]at hR
 have e0:=yv hR 0
 have e1:=yv hR 1
 obtain⟨b2,p2,e2,c2⟩:=yC (zA hR (j:=2) (by decide)) rfl rfl
 have e3:=yv hR 3
 have e4:=yv hR 4
 have e5:=yv hR 5
 have e6:=yv hR 6
 have e7:(zdv wq (pn+1)) (g 13) w2:=yr hR 7
 obtain⟨q7,e7,-⟩:=e7
 have e8:(zaI wq ⟨nv,nf,pp,pn,pc⟩ (pn+1)) (g 14) w2:=yr hR 8
 obtain⟨bp,e8,hOf⟩:=e8
 clear hR;simp only[za,fLa,fLb,sTa,sTb]
 simp only[e0,e1,e2,e3,e4,e5,e6,e7,e8]
 clear e0 e1 e2 e3 e4 e5 e6 e7 e8
 clear p2 c2
 replace hL:=hL.gave hOf;simp only[List.cons_append,List.nil_append]at hL;clear hOf
 clear hb
 go_upto_region 2 with(first|((with_reducible refine lbx hL ?_);clear hL;intro bs w3 hL))
 have HPUT:=Lib.hid (fun g=>(show zM 54 3 (some ⟨bp,0,none⟩) (pn+1) (pn+1) ((g::List.replicate pn yk).flatMap Pv.cells) [(bp,54,zk (List.replicate (pn+1) yk.cells).flatten 0 (Pv.cells g))] by rw[K4];exact zM.put (E:=54) (g:=bp) ZE qU (k:=0) (l:=List.replicate (pn+1) yk) (zM.full (by rw[← K4,Jr rfl]) (show pn+1≤maxLen by have:maxLen=9223372036854775807:=rfl;omega)) (by omega) g))
 have HSZ:=Lib.hid (show 0+3≤(List.replicate (pn+1) yk.cells).flatten.length by rw[Jr rfl];omega)
 generalize (List.replicate (pn+1) yk.cells).flatten=cr at hL HPUT HSZ
 obtain⟨wq,hwq⟩:∃ x,x=w3:=⟨_,rfl⟩
 subst hwq
 have hn0:((0:Int)<((pn+1:Nat):Int)):=by omega
 refine zf [16,17,18,19,20,21,22] ?_
 refine dv0 ?_
 refine dv1 0 ?_
 refine dv1 1 ?_
 refine dv1 2 ?_
 refine dv0 ?_
 refine zh (JM wq fst) JM.stable ?_ ?_
 ·intro g w hb y;replace hL:=hL.grow hb;have d4:=yv y 4;clear y;simp only[za,fLa,fLb,sTa,sTb];simp only[d4]
  go_wp2_with (go_at_call 96;refine(HF.out _).mono ?_;rintro q w4 ⟨r,rfl,hG⟩;dsimp only)
  exact⟨rfl,_,rfl,hG.below,r,rfl,Loc.since hb ((Loc.start _).gotP hG HBM.out)⟩
 simp only[apN,apC]
 refine dv1 3 ?_
 refine zO hL (by kernel_rfl) (by kernel_rfl) ?_
 intro g w4 hb hR;simp only[List.length_cons,List.length_nil,Nat.reduceAdd]at hR
 have e0:=yv hR 0
 have e1:=yv hR 1
 have e2:=yv hR 2
 have e3:=yv hR 3
 have e4:=yv hR 4
 have e5:(JM wq fst) (g 21) w4:=yr hR 5
 obtain⟨⟨rn,⟨rp,rvn,rvc⟩,⟨rfp,rfn,rfc⟩⟩,e5,hG⟩:=e5
 have e6:=yv hR 6
 clear hR;simp only[za,fLa,fLb,sTa,sTb]
 simp only[e0,e1,e2,e3,e4,e5,e6]
 clear e0 e1 e2 e3 e4 e5 e6
 replace hL:=hL.gave hG
 clear hb
 simp only[List.append_nil,List.cons_append,List.nil_append]at hL
 go_upto_region 3 with(first|(refine qa (b:=bp) (off:=0) (vs:=Pv.cells ⟨rn,⟨rp,rvn,rvc⟩,⟨rfp,rfn,rfc⟩⟩) (cs':=zk cr 0 (Pv.cells ⟨rn,⟨rp,rvn,rvc⟩,⟨rfp,rfn,rfc⟩⟩)) hL rfl rfl cIn rfl ZK.sz rfl HSZ.out rfl ?_;clear hL;intro w' hL))
 have hM:JD w ⟨nv,nf,pp,pn,pc⟩ bs ⟨some ⟨bp,0,none⟩,pn+1,pn+1⟩ [] (qZ is pn l0 0) w':=by
  refine⟨_,_,?_,HPUT.out ⟨rn,⟨rp,rvn,rvc⟩,⟨rfp,rfn,rfc⟩⟩,?_⟩
  ·rw[HS0.out,HLN.out];simp
  ·rw[HS0.out]
   exact(hL.turn (fun w h=>HST.out _ w h)).drop (.cons_cons _ (.cons _ (List.Sublist.refl _))) (fun _ h=>h)
 have HM:=Lib.hid hM
 clear hM hL HPUT HSZ HF HRP HBM HST
 have hL:=Loc.start w'
 go_wp2
 go_loopw [5] (fun c wr=>∃ k:Nat,c=.int .i64 ((k+1:Nat):Int)∧(∀ j,j<k→ZO is pn l0 j=true)∧JD w ⟨nv,nf,pp,pn,pc⟩ bs ⟨some ⟨bp,0,none⟩,pn+1,pn+1⟩ [] (qZ is pn l0 k) wr) (fun c _=>50000000000002 - (intOf c).toNat)
 case atStart=>exact⟨0,rfl,fun j hj=>absurd hj (Nat.not_lt_zero j),HM.out⟩
 case round=>
  obtain⟨k,rfl,hj,hM⟩:=hrel
  clear hL
  have HJ:=Lib.hid hj
  have HR:=Lib.hid (HRO.out _ _ k _ hM)
  have hk:=HTOP.out k hj
  have HN:=Lib.hid (fun (h:ZO is pn l0 k=true)=>HTOP.out (k+1) (fun j hj2=>(by
   rcases Nat.lt_or_ge j k with h3|h3
   ·exact hj j h3
   ·obtain rfl:j=k:=by omega
    exact h)))
  clear hj hM
  generalize hch:ZO is pn l0 k=ch at HR HN
  have HC:=Lib.hid hch
  clear hch
  cases ch with
  | true=>
   have hk2:=HN.out rfl
   go_wp2_with (go_at_call 111;refine HR.out.mono ?_;rintro e w2 ⟨rfl,hM2⟩;dsimp only)
   go_roundw
   case rel=>
    refine⟨k+1,by go_num,fun j hj=>?_,hM2⟩
    rcases Nat.lt_or_ge j k with h3|h3
    ·exact HJ.out j h3
    ·obtain rfl:j=k:=by omega
     exact HC.out
   case measure=>simp[intOf];omega
  | false=>
   go_wp2_with (first|(go_at_call 111;refine HR.out.mono ?_;rintro e w2 ⟨rfl,⟨xs,R,hxl,hR,hL⟩⟩;simp only[List.append_nil]at hL;dsimp only)|(with_reducible refine lld hL ?_))
   refine rt2 ?_
   exact⟨k,⟨some ⟨bp,0,none⟩,pn+1,pn+1⟩,rfl,⟨HC.out,HJ.out⟩,xs,R,hxl,hR,hL.drop (.cons _ (List.Sublist.refl _)) (fun _ h=>h)⟩
def zcr (o:Y0) (nn:Bool):Nat→Bool
 | 1=>o.wr
 | 2=>o.fl
 | 3=>nn
 | _=>false
def KK (o:Y0) (nn:Bool) (i j:Nat):List (Int × Int):=((List.range j).filter (zcr o nn)).map (fun k=>(Int.ofNat i,Int.ofNat k))
theorem VQ {o:Y0}{nn:Bool}{i j:Nat}(h:zcr o nn j=true):KK o nn i (j+1)=KK o nn i j++[((i:Int),(j:Int))]:=by
 simp[KK,List.range_succ,h]
theorem UH {o:Y0}{nn:Bool}{i j:Nat}(h:zcr o nn j=false):KK o nn i (j+1)=KK o nn i j:=by
 simp[KK,List.range_succ,h]
theorem zaJ (o:Y0) (nn:Bool) (i j:Nat):(KK o nn i j).length≤j:=by
 unfold KK
 rw[List.length_map]
 exact Nat.le_trans (List.length_filter_le _ _) (by simp)
def jP (is:Nat→Ins) (l:List Pd) (k:Nat):List (Int × Int):=(List.range k).flatMap (fun i=>KK (Qg is i (l.getD i zQ)) (l.getD i zQ).none i 4)
theorem Y9 (is:Nat→Ins) (l:List Pd) (k:Nat):jP is l (k+1)=jP is l k++KK (Qg is k (l.getD k zQ)) (l.getD k zQ).none k 4:=by
 simp[jP,List.range_succ]
theorem Jf (is:Nat→Ins) (l:List Pd):∀ k,(jP is l k).length≤4*k
 | 0=>by simp[jP]
 | k+1=>by
  have h1:=Jf is l k
  have h2:=zaJ (Qg is k (l.getD k zQ)) (l.getD k zQ).none k 4
  rw[Y9,List.length_append]
  omega
abbrev Yf (x:Int × Int):List Value:=[.int .i64 x.1,.int .i64 x.2]
theorem zdw (x:Int × Int):(Yf x).length=2:=rfl
structure JB (w:World) (s:Sl) (l:List (Int × Int)):Prop where
 n:s.n=l.length
 ex:je w 2 s.p s.n (fun k=>Yf (l.getD k (0,0)))
theorem JB.grow {w w' : World}{s:Sl}{l:List (Int × Int)}(h:JB w s l) (hb:Below w.heap.size w w'):JB w' s l:=⟨h.n,h.ex.grow hb⟩
theorem JB.nil (w:World):JB w zn []:=⟨rfl,0,0,fun h=>absurd h (Nat.lt_irrefl 0),fun k hk=>absurd hk (Nat.not_lt_zero k)⟩
theorem zM.alarms {w:World}{B n:Nat}{p:Option Addr}{cap:Nat}{R:List zj}{l:List (Int × Int)}(h:zM 35 2 p n cap (l.flatMap Yf) R) (ho:Own B w R):JB w ⟨p,n,cap⟩ l:=by
 have hn:=h.flatlen zdw (by decide)
 exact⟨hn,(h.listC zdw (0,0) (by decide) ho).2⟩
def JG (o:Y0):Value→World→Prop:=fun v _=>∃ s:Sl,v=.tuple #[.slice s.p s.n s.cap,.bool o.wr,.bool o.fl]
theorem JG.stable {o:Y0}:jC (JG o):=by rintro v w w' hb ⟨s,h⟩;exact⟨s,h⟩
def SlV:Value→World→Prop:=fun v _=>∃ s:Sl,v=.slice s.p s.n s.cap
theorem SlV.stable:jC SlV:=by rintro v w w' hb ⟨s,h⟩;exact⟨s,h⟩
structure YS (w:World) (s:Sl) (l:List Pd):Prop where
 n:s.n=l.length
 m:s.n≤9223372036854775807
 ex:∃ xs:Nat→Pv,je w 3 s.p s.n (fun k=>(xs k).cells)∧∀ k,k<s.n→zN w (xs k) (l.getD k zQ)
theorem YS.grow {w w' : World}{s:Sl}{l:List Pd}(h:YS w s l) (hb:Below w.heap.size w w'):YS w' s l:=by
 obtain⟨h1,h2,xs,h3,h4⟩:=h
 exact⟨h1,h2,xs,h3.grow hb,fun k hk=>(h4 k hk).grow hb⟩
theorem zaH.is {w w' : World}{s:Sl}{l:List Pd}(h:zaH w w' s l):YS w' s l:=by
 obtain⟨xs,R,hl,hR,hL⟩:=h
 have hn:=hR.flatlen ZE (by decide)
 obtain⟨_,h2⟩:=hR.listC ZE qU (by decide) hL.own
 have hp:=hL.get (S:=y8 xs l) List.mem_cons_self
 exact⟨by rw[hn,hl],hR.max,fun k=>xs.getD k qU,h2,fun k hk=>hp k (by omega)⟩
theorem YS.at' {w:World}{s:Sl}{l:List Pd}(h:YS w s l):∃ xs:Nat→Pv,Gs w s.p s.n xs (fun k=>l.getD k zQ):=by
 obtain⟨_,h2,xs,h3,h4⟩:=h
 exact⟨xs,h3,h4,h2⟩
abbrev zhh (D:Nat):zw:=fun w=>w.heap[D]? = some (.deferred (some []))
theorem Loc.defer {w0 w:World}{L:List zj}(h:Loc w0 w L []) {D:Nat}(hr:w0.heap.size≤D) (hK:w.heap[D]? = some (.deferred (some []))):Loc w0 w L [zhh D]:=by
 refine⟨h.below,h.nodup,h.ids,h.cells,fun S hS=>?_⟩
 rw[List.mem_singleton.1 hS]
 refine⟨fun b=>b=D,fun b hb=>⟨⟨by rw[hb];exact zL hK,by rw[hb];exact hr⟩,fun e he heb=>?_⟩,fun w' hw'=>(hw' D rfl).trans hK⟩
 have h1:=h.cells e he
 rw[heb,hb,hK]at h1
 cases h1
theorem YS.zero (w:World) (p:Option Addr) (c:Nat):YS w ⟨p,0,c⟩ []:=⟨rfl,Nat.zero_le _,fun _=>yk,⟨0,0,fun h=>absurd h (Nat.lt_irrefl 0),fun k hk=>absurd hk (Nat.not_lt_zero k)⟩,fun k hk=>absurd hk (Nat.not_lt_zero k)⟩
theorem zbU:ZO yB 2 (zB 1 0 2) 0=true:=by kernel_rfl
theorem zbV:ZO yB 2 (zB 1 0 2) 1=false:=by kernel_rfl
theorem zbW:yG yB 2 (zB 1 0 2) 1:=⟨zbV,fun j hj=>by
 obtain rfl:j=0:=by omega
 exact zbU⟩
end Go.Proofs.YtplcndmdkabmeaaGreatDoor
