/-  -/
import Derived.Test.YtplcndmdkabmeaaGreatDoorSolE
import Derived.Test.YtplcndmdkabmeaaGreatDoorSolD
import Derived.Test.YtplcndmdkabmeaaGreatDoorPicd
import Derived.Test.YtplcndmdkabmeaaGreatDoorStpc
set_option linter.unusedSimpArgs false
set_option linter.unusedVariables false
set_option maxRecDepth 100000
set_option maxHeartbeats 4000000
namespace Go.Proofs.YtplcndmdkabmeaaGreatDoor
open Go.RowKit
abbrev nonePv:Pv:=⟨true,nilSl,nilSl⟩
theorem PicIs.none (w:World):PicIs w nonePv nonePd:=⟨rfl,RowIs.zero w _ _,RowsIs.zero w _ _,Nat.zero_le _⟩
theorem first_right {p:Pg}{is:Nat→Ins}{nv nf:Nat}(hv:p.vars=nv) (hf:p.fields=nf):rightP p is (firstP nv nf p.n)=0:=by
 have hrow:∀ k,k<p.n→(firstP nv nf p.n).row k=List.replicate nf nothD:=fun k hk=>by
  show (List.replicate p.n (List.replicate nf nothD)).getD k []=_
  rw[List.getD_eq_getElem?_getD,List.getElem?_replicate,if_pos hk]
  rfl
 refine OkPd.right ⟨rfl,?_,?_,fun k hk=>?_,fun g hg=>?_,fun k hk g hg=>?_,fun k hk _ g hg=>?_⟩
 ·show ((List.replicate nv nullD).length:Int)=_
  rw[List.length_replicate,hv]
 ·exact List.length_replicate
 ·rw[hrow k hk,List.length_replicate,hf]
 ·rw[(List.mem_replicate.1 hg).2]
  exact⟨by decide,fun x hx=>(by cases hx),List.Pairwise.nil⟩
 ·rw[hrow k hk]at hg
  rw[(List.mem_replicate.1 hg).2]
  exact⟨by decide,fun x hx=>(by cases hx),List.Pairwise.nil⟩
 ·rw[hrow k hk]at hg
  rw[(List.mem_replicate.1 hg).2]
  rfl
def beginL (nv nf pn:Nat):List Pd:=firstP nv nf pn::List.replicate pn nonePd
theorem beginL_at (nv nf pn k:Nat):(beginL nv nf pn).getD (k+1) nonePd=nonePd:=by
 unfold beginL
 rw[List.getD_cons_succ,List.getD_eq_getElem?_getD,List.getElem?_replicate]
 split<;>rfl
theorem beginL_ok {p:Pg}{is:Nat→Ins}{nv nf:Nat}(hv:p.vars=nv) (hf:p.fields=nf):PicsOk p is (beginL nv nf p.n):=by
 refine⟨by simp[beginL],fun k hk=>?_⟩
 cases k with
 | zero=>exact first_right hv hf
 | succ k=>rw[beginL_at];rfl
theorem beginL_is (nv nf pn:Nat) (r:Pv) (w:World) (h:PicIs w r (firstP nv nf pn)):PicsD (r::List.replicate pn nonePv) (beginL nv nf pn) w:=by
 intro k hk
 cases k with
 | zero=>exact h
 | succ k=>
  rw[beginL_at,List.getD_cons_succ,List.getD_eq_getElem?_getD,List.getElem?_replicate,if_pos (by simpa [beginL] using hk)]
  exact PicIs.none w
theorem flat_repP (g:Pv):∀ n:Nat,(List.replicate n (Pv.cells g)).flatten=(List.replicate n g).flatMap Pv.cells
 | 0=>rfl
 | n+1=>by rw[List.replicate_succ,List.replicate_succ,List.flatten_cons,List.flatMap_cons,flat_repP g n]
def GotPs (w w' : World) (s:Sl) (l:List Pd):Prop:=∃ (xs:List Pv) (R:List LBlk),xs.length=l.length∧RowS 54 3 s.p s.n s.cap (xs.flatMap Pv.cells) R∧Loc w w' R [PicsD xs l]
def RepR (wq:World) (n:Nat):Value→World→Prop:=fun v w=>∃ r,v=.slice (some ⟨r,0,none⟩) n n∧Loc wq w [(r,54,(List.replicate n nonePv.cells).flatten)] []
theorem RepR.stable {wq:World}{n:Nat}:Stable (RepR wq n):=by
 rintro v w w' hb ⟨r,h1,h2⟩;exact⟨r,h1,h2.grow hb⟩
def SolvR (wq:World) (p:Pg) (n:Nat):Value→World→Prop:=fun v w=>∃ r,v=.agg #[.int .i64 p.vars,.int .i64 p.fields,.slice p.pc p.n p.cap,.slice (some ⟨r,0,none⟩) n n]∧Loc wq w [(r,54,(List.replicate n nonePv.cells).flatten)] []
theorem SolvR.stable {wq:World}{p:Pg}{n:Nat}:Stable (SolvR wq p n):=by
 rintro v w w' hb ⟨r,h1,h2⟩;exact⟨r,h1,h2.grow hb⟩
theorem sraw_any (p:Pg) (is:Nat→Ins) (nv nf:Nat) (hv:p.vars=nv) (hf:p.fields=nf) (hp:checkProg p is=0) (w:World) (hc:CodeAt w p is):
  Calls Tryz.prog 64 #[p.v] w fun q w'=>∃ (k:Nat) (s:Sl),q=.returned (.tuple #[.slice s.p s.n s.cap,.int .i64 ((k+1:Nat):Int)])∧EndsN is p.n (beginL nv nf p.n) k∧GotPs w w' s (solN is p.n (beginL nv nf p.n) (k+1)):=by
 have hs:=(prog_right hp).1
 have h1:=hs.v2
 have h2:=hs.f2
 have h60:=hs.n1
 have HF:=Lib.hid (fun w'=>first_any p nv nf hv hf (by omega) (by omega) (by omega) w')
 have hb0:PicsOk p is (beginL nv nf p.n):=beginL_ok hv hf
 have HRP:=Lib.hid (fun (b:Nat) w' hh=>(show Calls Tryz.prog 110 #[.slice (some ⟨b,0,none⟩) 1 1,.int .i64 ((p.n:Int)+1)] w' fun e w2=>∃ r,e=.returned (.slice (some ⟨r,0,none⟩) (p.n+1) (p.n+1))∧Loc w' w2 [(r,54,(List.replicate (p.n+1) nonePv.cells).flatten)] [] from repeatP_any nonePv.cells rfl (by decide) b (p.n+1) (by omega) w' hh))
 have HRO:=Lib.hid (fun bs s0 k w' (hM:SolM w p bs s0 [] (solN is p.n (beginL nv nf p.n) k) w')=>(show Calls Tryz.prog 111 #[.pointer (some ⟨bs,0,none⟩),.int .i64 ((k+1:Nat):Int)] w' (fun e w2=>e=.returned (.bool (chgN is p.n (beginL nv nf p.n) k))∧SolM w p bs s0 [] (solN is p.n (beginL nv nf p.n) (k+1)) w2) from (round_any p is hp w hc bs s0 (k+1) _ (solN_ok hp hb0 k) w' hM).mono fun e w2 h=>⟨h.1,h.2.1⟩))
 have HTOP:=Lib.hid (fun k (h:∀ j,j<k→chgN is p.n (beginL nv nf p.n) j=true)=>solN_top hp hb0 h)
 have HST:=Lib.hid (beginL_is nv nf p.n)
 have HBM:=Lib.hid (right_len hp (first_right (is:=is) hv hf))
 have HLN:=Lib.hid (show (beginL nv nf p.n).length=p.n+1 by simp[beginL])
 have HS0:=Lib.hid (show solN is p.n (beginL nv nf p.n) 0=beginL nv nf p.n from rfl)
 clear hs hb0 hc hp
 generalize firstP nv nf p.n=fst at HF HST HBM
 generalize beginL nv nf p.n=l0 at HRO HTOP HST HLN HS0 ⊢
 clear h1 h2
 obtain⟨pv,pf,pp,pn,pc⟩:=p
 dsimp only at hv hf h60 HRP HRO HTOP HST HLN HF HS0 ⊢
 subst hv hf
 have hL:=Loc.start w
 go_enter Tryz.func64,Tryz.ntmps64
 go_step
 go_step
 go_step
 ((with_reducible refine lbx hL ?_);clear hL;intro b1 w1 hL)
 go_upto_region 1 with(first|(with_reducible first|refine lld hL ?_|((first|refine lbx hL ?_|refine lal hL ?_|refine lbs hL ?_);clear hL;intro bl w1 hL)|(refine lst' hL ?_;clear hL;intro w1 hL)))
 obtain⟨wq,hwq⟩:∃ x,x=w1:=⟨_,rfl⟩
 subst hwq
 refine draw_begin [6,7,8,9,10,11,12,13,14] ?_
 refine dv0 ?_
 apply draw_val
 ·intro g w hb y;replace hL:=hL.grow hb;clear y;simp only[fillD,fLa,fLb,sTa,sTb]
  go_wp2_with (go_at_call 101;refine(pnone_any _).mono ?_;rintro e w3 ⟨rfl,hb3⟩;dsimp only)
  exact⟨rfl,_,rfl,(by assumption),rfl⟩
 simp only[apN,apC]
 apply draw_row
 ·intro g w hb y;replace hL:=hL.grow hb;have d1:=yv y 1;clear y;simp only[fillD,fLa,fLb,sTa,sTb];simp only[d1]
  go_wp2
  exact⟨rfl,_,rfl,(Below.refl _ _).alloc (Nat.le_refl _) _,_,hb.size,rfl,heap_new _ _⟩
 simp only[apN,apC]
 refine dv0 ?_
 refine dv1 3 ?_
 refine dv1 4 ?_
 refine dv1 5 ?_
 refine draw_next (RepR wq (pn+1)) RepR.stable ?_ ?_
 ·intro g w hb y;replace hL:=hL.grow hb;obtain⟨b2,e2,d2,f2⟩:=rat_row (allR_get y (j:=2) (by decide)) rfl rfl;have d6:=yv y 6;clear y;simp only[fillD,fLa,fLb,sTa,sTb];simp only[d2,d6]
  go_wp2_with (go_at_call 110;refine(HRP.out _ _ f2).mono ?_;rintro q w3 ⟨r,rfl,hl3⟩;dsimp only)
  exact⟨rfl,_,rfl,hl3.below,r,rfl,Loc.since hb hl3⟩
 simp only[apN,apC]
 refine draw_next (SolvR wq ⟨nv,nf,pp,pn,pc⟩ (pn+1)) SolvR.stable ?_ ?_
 ·intro g w hb y;replace hL:=hL.grow hb;have d0:=yv y 0;have d7:(RepR wq (pn+1)) (g 13) w:=yr y 7;obtain⟨q7,d7,hO7⟩:=d7;clear y;simp only[fillD,fLa,fLb,sTa,sTb];simp only[d0,d7]
  go_wp2_with (fail)
  exact⟨rfl,_,rfl,Below.refl _ _,q7,rfl,hO7⟩
 simp only[apN,apC]
 refine draw_end hL (by kernel_rfl) (by kernel_rfl) ?_
 intro g w2 hb hR;simp only[List.length_cons,List.length_nil,Nat.reduceAdd]at hR
 have e0:=yv hR 0
 have e1:=yv hR 1
 obtain⟨b2,p2,e2,c2⟩:=rat_row (allR_get hR (j:=2) (by decide)) rfl rfl
 have e3:=yv hR 3
 have e4:=yv hR 4
 have e5:=yv hR 5
 have e6:=yv hR 6
 have e7:(RepR wq (pn+1)) (g 13) w2:=yr hR 7
 obtain⟨q7,e7,-⟩:=e7
 have e8:(SolvR wq ⟨nv,nf,pp,pn,pc⟩ (pn+1)) (g 14) w2:=yr hR 8
 obtain⟨bp,e8,hOf⟩:=e8
 clear hR;simp only[fillD,fLa,fLb,sTa,sTb]
 simp only[e0,e1,e2,e3,e4,e5,e6,e7,e8]
 clear e0 e1 e2 e3 e4 e5 e6 e7 e8
 clear p2 c2
 replace hL:=hL.gave hOf;simp only[List.cons_append,List.nil_append]at hL;clear hOf
 clear hb
 go_upto_region 2 with(first|((with_reducible refine lbx hL ?_);clear hL;intro bs w3 hL)|(with_reducible first|refine lld hL ?_|((first|refine lbx hL ?_|refine lal hL ?_|refine lbs hL ?_);clear hL;intro bl w1 hL)|(refine lst' hL ?_;clear hL;intro w1 hL)))
 have HPUT:=Lib.hid (fun g=>(show RowS 54 3 (some ⟨bp,0,none⟩) (pn+1) (pn+1) ((g::List.replicate pn nonePv).flatMap Pv.cells) [(bp,54,spliced (List.replicate (pn+1) nonePv.cells).flatten 0 (Pv.cells g))] by rw[flat_repP];exact RowS.put (E:=54) (g:=bp) lenP3 zeroPv (k:=0) (l:=List.replicate (pn+1) nonePv) (RowS.full (by rw[← flat_repP,repP_l rfl]) (show pn+1≤maxLen by have:maxLen=9223372036854775807:=rfl;omega)) (by omega) g))
 have HSZ:=Lib.hid (show 0+3≤(List.replicate (pn+1) nonePv.cells).flatten.length by rw[repP_l rfl];omega)
 generalize (List.replicate (pn+1) nonePv.cells).flatten=cr at hL HPUT HSZ
 obtain⟨wq,hwq⟩:∃ x,x=w3:=⟨_,rfl⟩
 subst hwq
 have hn0:((0:Int)<((pn+1:Nat):Int)):=by omega
 refine draw_begin [16,17,18,19,20,21,22] ?_
 refine dv0 ?_
 refine dv1 0 ?_
 refine dv1 1 ?_
 refine dv1 2 ?_
 refine dv0 ?_
 refine draw_next (PicQr wq fst) PicQr.stable ?_ ?_
 ·intro g w hb y;replace hL:=hL.grow hb;have d4:=yv y 4;clear y;simp only[fillD,fLa,fLb,sTa,sTb];simp only[d4]
  go_wp2_with (go_at_call 96;refine(HF.out _).mono ?_;rintro q w4 ⟨r,rfl,hG⟩;dsimp only)
  exact⟨rfl,_,rfl,hG.below,r,rfl,Loc.since hb ((Loc.start _).gotP hG HBM.out)⟩
 simp only[apN,apC]
 refine dv1 3 ?_
 refine draw_end hL (by kernel_rfl) (by kernel_rfl) ?_
 intro g w4 hb hR;simp only[List.length_cons,List.length_nil,Nat.reduceAdd]at hR
 have e0:=yv hR 0
 have e1:=yv hR 1
 have e2:=yv hR 2
 have e3:=yv hR 3
 have e4:=yv hR 4
 have e5:(PicQr wq fst) (g 21) w4:=yr hR 5
 obtain⟨⟨rn,⟨rp,rvn,rvc⟩,⟨rfp,rfn,rfc⟩⟩,e5,hG⟩:=e5
 have e6:=yv hR 6
 clear hR;simp only[fillD,fLa,fLb,sTa,sTb]
 simp only[e0,e1,e2,e3,e4,e5,e6]
 clear e0 e1 e2 e3 e4 e5 e6
 replace hL:=hL.gave hG
 clear hb
 simp only[List.append_nil,List.cons_append,List.nil_append]at hL
 go_upto_region 3 with(first|(refine loc_store (b:=bp) (off:=0) (vs:=Pv.cells ⟨rn,⟨rp,rvn,rvc⟩,⟨rfp,rfn,rfc⟩⟩) (cs':=spliced cr 0 (Pv.cells ⟨rn,⟨rp,rvn,rvc⟩,⟨rfp,rfn,rfc⟩⟩)) hL rfl rfl cIn rfl tPic.sz rfl HSZ.out rfl ?_;clear hL;intro w' hL))
 have hM:SolM w ⟨nv,nf,pp,pn,pc⟩ bs ⟨some ⟨bp,0,none⟩,pn+1,pn+1⟩ [] (solN is pn l0 0) w':=by
  refine⟨_,_,?_,HPUT.out ⟨rn,⟨rp,rvn,rvc⟩,⟨rfp,rfn,rfc⟩⟩,?_⟩
  ·rw[HS0.out,HLN.out];simp
  ·rw[HS0.out]
   exact(hL.turn (fun w h=>HST.out _ w h)).drop (.cons_cons _ (.cons _ (List.Sublist.refl _))) (fun _ h=>h)
 have HM:=Lib.hid hM
 clear hM hL HPUT HSZ HF HRP HBM HST
 have hL:=Loc.start w'
 go_wp2
 go_loopw [5] (fun c wr=>∃ k:Nat,c=.int .i64 ((k+1:Nat):Int)∧(∀ j,j<k→chgN is pn l0 j=true)∧SolM w ⟨nv,nf,pp,pn,pc⟩ bs ⟨some ⟨bp,0,none⟩,pn+1,pn+1⟩ [] (solN is pn l0 k) wr) (fun c _=>50000000000002 - (intOf c).toNat)
 case atStart=>exact⟨0,rfl,fun j hj=>absurd hj (Nat.not_lt_zero j),HM.out⟩
 case round=>
  obtain⟨k,rfl,hj,hM⟩:=hrel
  clear hL
  have HJ:=Lib.hid hj
  have HR:=Lib.hid (HRO.out _ _ k _ hM)
  have hk:=HTOP.out k hj
  have HN:=Lib.hid (fun (h:chgN is pn l0 k=true)=>HTOP.out (k+1) (fun j hj2=>(by
   rcases Nat.lt_or_ge j k with h3|h3
   ·exact hj j h3
   ·obtain rfl:j=k:=by omega
    exact h)))
  clear hj hM
  generalize hch:chgN is pn l0 k=ch at HR HN
  have HC:=Lib.hid hch
  clear hch
  cases ch with
  | true=>
   have hk2:=HN.out rfl
   go_wp2_with (go_at_call 111;refine HR.out.mono ?_;rintro e w2 ⟨rfl,hM2⟩;dsimp only)
   go_roundw
   case rel=>
    refine⟨k+1,by go_num,fun j hj=>?_,hM2⟩
    rcases Nat.lt_or_ge j k with h3|h3
    ·exact HJ.out j h3
    ·obtain rfl:j=k:=by omega
     exact HC.out
   case measure=>simp[intOf];omega
  | false=>
   go_wp2_with (first|(go_at_call 111;refine HR.out.mono ?_;rintro e w2 ⟨rfl,⟨xs,R,hxl,hR,hL⟩⟩;simp only[List.append_nil]at hL;dsimp only)|(with_reducible first|refine lld hL ?_|((first|refine lbx hL ?_|refine lal hL ?_|refine lbs hL ?_);clear hL;intro bl w1 hL)|(refine lst' hL ?_;clear hL;intro w1 hL)))
   (try simp only[Exit.inBlock,Exit.then]);refine rt2 ?_
   exact⟨k,⟨some ⟨bp,0,none⟩,pn+1,pn+1⟩,rfl,⟨HC.out,HJ.out⟩,xs,R,hxl,hR,hL.drop (.cons _ (List.Sublist.refl _)) (fun _ h=>h)⟩
end Go.Proofs.YtplcndmdkabmeaaGreatDoor
set_option linter.unusedSimpArgs false
set_option linter.unusedVariables false
set_option maxRecDepth 100000
namespace Go.Proofs.YtplcndmdkabmeaaGreatDoor
open Go.RowKit
def flagA (o:Outs) (nn:Bool):Nat→Bool
 | 1=>o.wr
 | 2=>o.fl
 | 3=>nn
 | _=>false
def almJ (o:Outs) (nn:Bool) (i j:Nat):List (Int × Int):=((List.range j).filter (flagA o nn)).map (fun k=>(Int.ofNat i,Int.ofNat k))
theorem almJ_yes {o:Outs}{nn:Bool}{i j:Nat}(h:flagA o nn j=true):almJ o nn i (j+1)=almJ o nn i j++[((i:Int),(j:Int))]:=by
 simp[almJ,List.range_succ,h]
theorem almJ_no {o:Outs}{nn:Bool}{i j:Nat}(h:flagA o nn j=false):almJ o nn i (j+1)=almJ o nn i j:=by
 simp[almJ,List.range_succ,h]
theorem almJ_len (o:Outs) (nn:Bool) (i j:Nat):(almJ o nn i j).length≤j:=by
 unfold almJ
 rw[List.length_map]
 exact Nat.le_trans (List.length_filter_le _ _) (by simp)
def almUp (is:Nat→Ins) (l:List Pd) (k:Nat):List (Int × Int):=(List.range k).flatMap (fun i=>almJ (rawD is i (l.getD i nonePd)) (l.getD i nonePd).none i 4)
theorem almUp_succ (is:Nat→Ins) (l:List Pd) (k:Nat):almUp is l (k+1)=almUp is l k++almJ (rawD is k (l.getD k nonePd)) (l.getD k nonePd).none k 4:=by
 simp[almUp,List.range_succ]
theorem almUp_len (is:Nat→Ins) (l:List Pd):∀ k,(almUp is l k).length≤4*k
 | 0=>by simp[almUp]
 | k+1=>by
  have h1:=almUp_len is l k
  have h2:=almJ_len (rawD is k (l.getD k nonePd)) (l.getD k nonePd).none k 4
  rw[almUp_succ,List.length_append]
  omega
abbrev almC (x:Int × Int):List Value:=[.int .i64 x.1,.int .i64 x.2]
theorem lenA (x:Int × Int):(almC x).length=2:=rfl
structure AlmAt (w:World) (s:Sl) (l:List (Int × Int)):Prop where
 n:s.n=l.length
 ex:ListC w 2 s.p s.n (fun k=>almC (l.getD k (0,0)))
theorem AlmAt.grow {w w' : World}{s:Sl}{l:List (Int × Int)}(h:AlmAt w s l) (hb:Below w.heap.size w w'):AlmAt w' s l:=⟨h.n,h.ex.grow hb⟩
theorem AlmAt.nil (w:World):AlmAt w nilSl []:=⟨rfl,0,0,fun h=>absurd h (Nat.lt_irrefl 0),fun k hk=>absurd hk (Nat.not_lt_zero k)⟩
theorem RowS.alarms {w:World}{B n:Nat}{p:Option Addr}{cap:Nat}{R:List LBlk}{l:List (Int × Int)}(h:RowS 35 2 p n cap (l.flatMap almC) R) (ho:Own B w R):AlmAt w ⟨p,n,cap⟩ l:=by
 have hn:=h.flatlen lenA (by decide)
 exact⟨hn,(h.listC lenA (0,0) (by decide) ho).2⟩
def RawV (o:Outs):Value→World→Prop:=fun v _=>∃ s:Sl,v=.tuple #[.slice s.p s.n s.cap,.bool o.wr,.bool o.fl]
theorem RawV.stable {o:Outs}:Stable (RawV o):=by rintro v w w' hb ⟨s,h⟩;exact⟨s,h⟩
def SlV:Value→World→Prop:=fun v _=>∃ s:Sl,v=.slice s.p s.n s.cap
theorem SlV.stable:Stable SlV:=by rintro v w w' hb ⟨s,h⟩;exact⟨s,h⟩
end Go.Proofs.YtplcndmdkabmeaaGreatDoor
set_option linter.unusedSimpArgs false
set_option linter.unusedVariables false
set_option maxRecDepth 100000
namespace Go.Proofs.YtplcndmdkabmeaaGreatDoor
open Go.RowKit
structure PicsL (w:World) (s:Sl) (l:List Pd):Prop where
 n:s.n=l.length
 m:s.n≤9223372036854775807
 ex:∃ xs:Nat→Pv,ListC w 3 s.p s.n (fun k=>(xs k).cells)∧∀ k,k<s.n→PicIs w (xs k) (l.getD k nonePd)
theorem PicsL.grow {w w' : World}{s:Sl}{l:List Pd}(h:PicsL w s l) (hb:Below w.heap.size w w'):PicsL w' s l:=by
 obtain⟨h1,h2,xs,h3,h4⟩:=h
 exact⟨h1,h2,xs,h3.grow hb,fun k hk=>(h4 k hk).grow hb⟩
theorem GotPs.is {w w' : World}{s:Sl}{l:List Pd}(h:GotPs w w' s l):PicsL w' s l:=by
 obtain⟨xs,R,hl,hR,hL⟩:=h
 have hn:=hR.flatlen lenP3 (by decide)
 obtain⟨_,h2⟩:=hR.listC lenP3 zeroPv (by decide) hL.own
 have hp:=hL.get (S:=PicsD xs l) List.mem_cons_self
 exact⟨by rw[hn,hl],hR.max,fun k=>xs.getD k zeroPv,h2,fun k hk=>hp k (by omega)⟩
theorem PicsL.at' {w:World}{s:Sl}{l:List Pd}(h:PicsL w s l):∃ xs:Nat→Pv,PicsAt w s.p s.n xs (fun k=>l.getD k nonePd):=by
 obtain⟨_,h2,xs,h3,h4⟩:=h
 exact⟨xs,h3,h4,h2⟩
def fitsE (is:Nat→Ins) (pn:Nat) (l:List Pd):Bool:=(List.range pn).all fun i=>(rawD is i (l.getD i nonePd)).es.all fun x=>insideP x.2 (l.getD x.1.toNat nonePd)
def fitsS (is:Nat→Ins) (pn:Nat) (l:List Pd) (f:Pd):Bool:=fitsE is pn l&&insideP f (l.getD 0 nonePd)
theorem fitsE_iff {is:Nat→Ins}{pn:Nat}{l:List Pd}:fitsE is pn l=true↔∀ i,i<pn→∀ x∈(rawD is i (l.getD i nonePd)).es,insideP x.2 (l.getD x.1.toNat nonePd)=true:=by
 unfold fitsE
 rw[List.all_eq_true]
 refine⟨fun h i hi x hx=>?_,fun h i hi=>?_⟩
 ·exact List.all_eq_true.1 (h i (List.mem_range.2 hi)) x hx
 ·exact List.all_eq_true.2 (h i (List.mem_range.1 hi))
end Go.Proofs.YtplcndmdkabmeaaGreatDoor
set_option linter.unusedSimpArgs false
set_option linter.unusedVariables false
set_option maxRecDepth 100000
namespace Go.Proofs.YtplcndmdkabmeaaGreatDoor
open Go.RowKit
abbrev DefD (D:Nat):Datum:=fun w=>w.heap[D]? = some (.deferred (some []))
theorem Loc.defer {w0 w:World}{L:List LBlk}(h:Loc w0 w L []) {D:Nat}(hr:w0.heap.size≤D) (hK:w.heap[D]? = some (.deferred (some []))):Loc w0 w L [DefD D]:=by
 refine⟨h.below,h.nodup,h.ids,h.cells,fun S hS=>?_⟩
 rw[List.mem_singleton.1 hS]
 refine⟨fun b=>b=D,fun b hb=>⟨⟨by rw[hb];exact heap_lt hK,by rw[hb];exact hr⟩,fun e he heb=>?_⟩,fun w' hw'=>(hw' D rfl).trans hK⟩
 have h1:=h.cells e he
 rw[heb,hb,hK]at h1
 cases h1
end Go.Proofs.YtplcndmdkabmeaaGreatDoor
set_option linter.unusedSimpArgs false
set_option linter.unusedVariables false
set_option maxRecDepth 100000
namespace Go.Proofs.YtplcndmdkabmeaaGreatDoor
open Go.RowKit
theorem PicsL.zero (w:World) (p:Option Addr) (c:Nat):PicsL w ⟨p,0,c⟩ []:=⟨rfl,Nat.zero_le _,fun _=>nonePv,⟨0,0,fun h=>absurd h (Nat.lt_irrefl 0),fun k hk=>absurd hk (Nat.not_lt_zero k)⟩,fun k hk=>absurd hk (Nat.not_lt_zero k)⟩
theorem small_chg0:chgN smallIs 2 (beginL 1 0 2) 0=true:=by kernel_rfl
theorem small_chg1:chgN smallIs 2 (beginL 1 0 2) 1=false:=by kernel_rfl
theorem small_ends:EndsN smallIs 2 (beginL 1 0 2) 1:=⟨small_chg1,fun j hj=>by
 obtain rfl:j=0:=by omega
 exact small_chg0⟩
end Go.Proofs.YtplcndmdkabmeaaGreatDoor
