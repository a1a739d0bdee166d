/- The walk over the package code's function one where there is no such kind; what letters tell. Conditions: the program's numbers are small. | The plain law of one instruction: what its letters tell is what the document says. Conditions: its kind is one. | The walk over the package code's function one. Conditions: the program's numbers are small. -/
import Derived.Test.YtplcndmdkabmeaaGreatDoorCod
import Derived.Test.YtplcndmdkabmeaaGreatDoorPrg
set_option linter.unusedSimpArgs false
set_option linter.unusedVariables false
set_option maxRecDepth 100000
set_option maxHeartbeats 8000000
namespace Go.Proofs.YtplcndmdkabmeaaGreatDoor
open Go.RowKit
def yK:List (List UInt8):=[[],[118,110],[118,116],[118],[118,97],[118,97,98],[118,97,98],[118,97,98],[118,97,98],[118,97,98],[118,97],[118],[118,97,102],[97,102,98],[118,105],[97,103],[103],[97],[97],[]]
def zK (k:Int):ByteArray:=⟨(yK.getD k.toNat []).toArray⟩
theorem zeh {k:Int}(h:z6 k 1 19=true):∃ wd,qV.find? (fun x=>k==x.1)=some (k,.agg #[.string wd,.string (zK k)]):=by
 rcases jF h with rfl|rfl|rfl|rfl|rfl|rfl|rfl|rfl|rfl|rfl|rfl|rfl|rfl|rfl|rfl|rfl|rfl|rfl|rfl<;>exact⟨_,rfl⟩
theorem zft {k:Int}(h:z6 k 1 19=false):qV.find? (fun x=>k==x.1)=none:=by
 rw[List.find?_eq_none]
 simp[z6]at h
 intro x hx
 simp only[qV,List.mem_cons,List.not_mem_nil,or_false]at hx
 rcases hx with rfl|rfl|rfl|rfl|rfl|rfl|rfl|rfl|rfl|rfl|rfl|rfl|rfl|rfl|rfl|rfl|rfl|rfl|rfl<;>simp<;>omega
theorem Je {k:Int}(h:z6 k 1 19=true):(zK k).size≤3:=by
 rcases jF h with rfl|rfl|rfl|rfl|rfl|rfl|rfl|rfl|rfl|rfl|rfl|rfl|rfl|rfl|rfl|rfl|rfl|rfl|rfl<;>decide +kernel
theorem hzs:∀ w,(zeroValue 162).run Tryz.prog w=.ok (.agg #[.string ⟨#[]⟩,.string ⟨#[]⟩]) w:=fun w=>by kernel_rfl
section
variable {P : Program} {ops : Array Oper} {Q : Exit → Act → World → Prop} {a : Act} {w : World} {rest : List Oper} {d : Option Tmp} {ty : TypeId} {pos : String} {after : Array Edge}
theorem Vp {T K V:TypeId}{z v:Value}{b:Nat}{l:List (Int × Value)}{kk:Int}{x k:Operand}(hT:za0 P T K V) (hz:∀ w,(zeroValue V).run P w=.ok z w) (h:w.heap[b]? = some (.map (jo l).toArray l.length))
  (hv:Kj l z kk=v) (hx:a.eval x=.map (some b)) (hk:a.eval k=.int .i64 kk)
  (hQ:wpList P ops Q rest (a.put d v) w):wpList P ops Q (⟨d,.lookup T x k true,ty,pos,after,none⟩::rest) a w:=
 z8 (o:=⟨d,.lookup T x k true,ty,pos,after,none⟩) (w':=w) rfl (by simp only[execOp,hx,hk];rw[Sem.run_bind,U4 hT hz h,hv];rfl) hQ
end
def VZ (B:Nat) (es:Array MapEntry) (c:Nat):Value→World→Prop:=fun v w=>∃ b,B≤b∧v=.map (some b)∧w.heap[b]? = some (.map es c)
theorem VZ.stable {B es c}:jC (VZ B es c):=by
 rintro v w w' hb ⟨b,h,hv,hc⟩
 exact⟨b,h,hv,(hb.block _ (zL hc)).trans hc⟩
theorem zgg (p:Pg) (i:Ins) (hb:z6 i.kind 1 19=false) (w:World):
  Calls Tryz.prog 86 #[p.v,i.v] w fun e w'=>e=.returned (.int .i64 6)∧Below w.heap.size w w':=by
 have hlk:=zft hb
 have HLK:=Lib.hid hlk
 clear hlk hb
 have hL:=Loc.start w
 go_enter Tryz.func86,Tryz.ntmps86
 go_upto_region 1 with(first|(with_reducible refine lbx hL ?_;clear hL;intro bl w1 hL))
 refine zf [11,12,13,14,10,15,16,5] ?_
 refine zh (VZ w1.heap.size (jo qV).toArray qV.length) VZ.stable ?_ ?_
 ·intro g w hb y;replace hL:=hL.grow hb;clear y;simp only[za,fLa,fLb,sTa,sTb]
  go_wp2_with (go_at_call 116;refine(Y7 _).mono ?_;rintro e w3 ⟨b,rfl,hge,hm,hb3⟩;dsimp only)
  exact⟨rfl,_,rfl,hb3,b,Nat.le_trans hb.size hge,rfl,hm⟩
 simp only[apN,apC]
 refine dv0 ?_
 refine dv1 1 ?_
 apply zb
 ·intro g w hb y;replace hL:=hL.grow hb;have d0:(VZ w1.heap.size (jo qV).toArray qV.length) (g 11) w:=yr y 0;obtain⟨bm,em,d0,fm⟩:=d0;have d2:=yv y 2;clear y;simp only[za,fLa,fLb,sTa,sTb];simp only[d0,d2]
  refine Vp (v:=.tuple #[.agg #[.string ⟨#[]⟩,.string ⟨#[]⟩],.bool false]) UF hzs fm (by unfold Kj;rw[HLK.out]) rfl rfl ?_
  exact cY
 simp only[apN,apC]
 refine dv1 3 ?_
 refine dv1 4 ?_
 refine dv1 4 ?_
 apply Qi
 ·intro g w hb y;replace hL:=hL.grow hb;clear y;simp only[za,fLa,fLb,sTa,sTb]
  go_wp2
  exact⟨rfl,_,rfl,(Below.refl _ _).alloc (Nat.le_refl _) _,_,hb.size,rfl,zI _ _⟩
 simp only[apN,apC]
 refine QA 6 hL (by kernel_rfl) (by kernel_rfl) (fun _ _ _ _ _ h=>h) ?_ ?_
 ·(refine Q0 rfl rfl ?_;intro g w hb y;(try simp[zi,List.filter_cons,Region.binds,z7,RAt]at y);simp only[za,List.foldl_cons,List.foldl_nil,List.set_cons_succ,List.set_cons_zero];(try simp only[y]);exact⟨_,.inl ⟨rfl,fun w=>(by go_simp<;>(try (split<;>(rename_i hs;simp[hs,cnd]))))⟩,rfl⟩)
 intro g w2 hb hR;simp only[List.length_cons,List.length_nil,Nat.reduceAdd]at hR
 have e0:(VZ w1.heap.size (jo qV).toArray qV.length) (g 11) w2:=yr hR 0
 obtain⟨bm,em,e0,fm⟩:=e0
 have e1:=yv hR 1
 have e2:=yv hR 2
 have e3:=yv hR 3
 have e4:=yv hR 4
 have e5:=yv hR 5
 have e6:=yv hR 6
 obtain⟨b7,p7,e7,c7⟩:=Q1 (zA hR (j:=7) (by decide)) rfl rfl
 clear hR;simp only[za,fLa,fLb,sTa,sTb]
 simp only[e0,e1,e2,e3,e4,e5,e6,e7]
 clear e0 e1 e2 e3 e4 e5 e6 e7
 replace hL:=hL.gain hb p7 c7
 clear p7 c7
 clear hb
 go_wp2_with (first|(with_reducible refine zd hL ?_;clear hL;intro w1 hL))
 refine rt1 ?_
 exact⟨rfl,hL.below⟩
def Zb (i:Ins) (c:Int):Int:=if c=118 then i.to else if c=97 then i.a else if c=98 then i.b else if c=103 then i.goto else i.n
theorem zce (i:Ins) (c:Int):i.cells[V2 c]? = some (.int .i64 (Zb i c)):=by
 unfold V2 Zb
 by_cases h1:c=118
 ·simp[h1]
 ·by_cases h2:c=97
  ·simp[h2]
  ·by_cases h3:c=98
   ·simp[h3]
   ·by_cases h4:c=103
    ·simp[h4]
    ·simp[h1,h2,h3,h4]
def G8 (i:Ins) (c:Int):Ins:=if c=118 then { i with to:=0 } else if c=97 then { i with a:=0 } else if c=98 then { i with b:=0 } else if c=103 then { i with goto:=0 } else { i with n:=0 }
theorem zei (i:Ins) (c:Int):zk i.cells (V2 c) [.int .i64 0]=(G8 i c).cells:=by
 unfold V2 G8
 by_cases h1:c=118
 ·simp[h1,zk]
 ·by_cases h2:c=97
  ·simp[h2,zk]
  ·by_cases h3:c=98
   ·simp[h3,zk]
   ·by_cases h4:c=103
    ·simp[h4,zk]
    ·simp[h1,h2,h3,h4,zk]
def qE (ns:ByteArray) (k:Nat):Int:=((ns.data.toList.getD k 0).toNat:Int)
theorem Yp {ns:ByteArray}{k:Nat}(h:k<ns.size):((ns[k]'h).toNat:Int)=qE ns k:=by
 have h2:k<ns.data.size:=h
 simp only[qE,List.getD,Array.getElem?_toList,Array.getElem?_eq_getElem h2,Option.getD_some]
 rfl
def ZX (ns:ByteArray) (i:Ins):Nat→Ins
 | 0=>i
 | k+1=>G8 (ZX ns i k) (qE ns k)
def ZY (p:Pg) (i:Ins) (ns:ByteArray) (k:Nat):Prop:=∀ j,j<k→Jz p (qE ns j) (Zb i (qE ns j))=true
def UE (i:Ins) (ns:ByteArray) (k:Nat):Prop:=∀ j,j<k→Yb (qE ns j) (Zb i (qE ns j))=true
theorem zcf (c:Int):V2 c+1≤6:=by unfold V2;split;omega;split;omega;split;omega;split<;>omega
theorem few {k n:Nat}(h:k<n) (hn:n≤3):k=0∨k=1∨k=2:=by omega
theorem zfu {p:Pg}{i:Ins}(hb:z6 i.kind 1 19=true) {k:Nat}(hk:k<(zK i.kind).size) (h:Jz p (qE (zK i.kind) k) (Zb i (qE (zK i.kind) k))=false):YR p i=true:=by
 have h3:=few hk (Je hb)
 obtain⟨kd,to,a,b,n,g⟩:=i
 dsimp only at hb hk h h3
 rcases jF hb with rfl|rfl|rfl|rfl|rfl|rfl|rfl|rfl|rfl|rfl|rfl|rfl|rfl|rfl|rfl|rfl|rfl|rfl|rfl<;>rcases h3 with rfl|rfl|rfl<;>
  first
   | (exact absurd hk (by decide))
   | (simp[qE,zK,yK,Jz,Zb]at h;done)
   | (simp[qE,zK,yK,Jz,Zb,z6]at h;simp[YR,nTo,nA,nB,QR,z6];omega)
theorem Vq {p:Pg}{i:Ins}(hb:z6 i.kind 1 19=true) (h:ZY p i (zK i.kind) (zK i.kind).size):YR p i=false:=by
 have h0:=h 0
 have h1:=h 1
 have h2:=h 2
 clear h
 obtain⟨kd,to,a,b,n,g⟩:=i
 dsimp only at hb h0 h1 h2
 rcases jF hb with rfl|rfl|rfl|rfl|rfl|rfl|rfl|rfl|rfl|rfl|rfl|rfl|rfl|rfl|rfl|rfl|rfl|rfl|rfl<;>
  ((try simp[qE,zK,yK,Jz,Zb,ByteArray.size,z6]at h0);(try simp[qE,zK,yK,Jz,Zb,ByteArray.size,z6]at h1);(try simp[qE,zK,yK,Jz,Zb,ByteArray.size,z6]at h2);(simp[YR,nTo,nA,nB,QR,z6]);(try omega))
theorem zej {i:Ins}(hb:z6 i.kind 1 19=true) {k:Nat}(hk:k<(zK i.kind).size) (h:Yb (qE (zK i.kind) k) (Zb i (qE (zK i.kind) k))=false):J1 i=true:=by
 have h3:=few hk (Je hb)
 obtain⟨kd,to,a,b,n,g⟩:=i
 dsimp only at hb hk h h3
 rcases jF hb with rfl|rfl|rfl|rfl|rfl|rfl|rfl|rfl|rfl|rfl|rfl|rfl|rfl|rfl|rfl|rfl|rfl|rfl|rfl<;>rcases h3 with rfl|rfl|rfl<;>
  first
   | (exact absurd hk (by decide))
   | (simp[qE,zK,yK,Yb,Zb]at h;done)
   | (simp[qE,zK,yK,Yb,Zb,z6]at h;simp[J1,z6];omega)
theorem XA {i:Ins}(hb:z6 i.kind 1 19=true) (h:UE i (zK i.kind) (zK i.kind).size):J1 i=false:=by
 have h0:=h 0
 have h1:=h 1
 have h2:=h 2
 clear h
 obtain⟨kd,to,a,b,n,g⟩:=i
 dsimp only at hb h0 h1 h2
 rcases jF hb with rfl|rfl|rfl|rfl|rfl|rfl|rfl|rfl|rfl|rfl|rfl|rfl|rfl|rfl|rfl|rfl|rfl|rfl|rfl<;>
  ((try simp[qE,zK,yK,Yb,Zb,ByteArray.size,z6]at h0);(try simp[qE,zK,yK,Yb,Zb,ByteArray.size,z6]at h1);(try simp[qE,zK,yK,Yb,Zb,ByteArray.size,z6]at h2);(simp[J1,z6]);(try omega))
theorem G9 {i:Ins}(hb:z6 i.kind 1 19=true):j5 i=false↔ZX (zK i.kind) i (zK i.kind).size=⟨i.kind,0,0,0,0,0⟩:=by
 obtain⟨kd,to,a,b,n,g⟩:=i
 dsimp only at hb
 rcases jF hb with rfl|rfl|rfl|rfl|rfl|rfl|rfl|rfl|rfl|rfl|rfl|rfl|rfl|rfl|rfl|rfl|rfl|rfl|rfl<;>
  (simp[zK,yK,ByteArray.size,ZX,qE,G8,j5,nTo,nA,nB,nN,QR,z6];(try omega))
theorem zg8 {p:Pg}{i:Ins}(hb:z6 i.kind 1 19=true):∀ k,k<(zK i.kind).size→Jz p (qE (zK i.kind) k) (Zb i (qE (zK i.kind) k))=false→zY p i=5:=fun k hk h=>by
 simp[zY,hb,zfu hb hk h]
theorem zg9 {p:Pg}{i:Ins}(hb:z6 i.kind 1 19=true):ZY p i (zK i.kind) (zK i.kind).size→∀ k,k<(zK i.kind).size→Yb (qE (zK i.kind) k) (Zb i (qE (zK i.kind) k))=false→zY p i=3:=fun hn k hk h=>by
 simp[zY,hb,Vq hb hn,zej hb hk h]
theorem zha {p:Pg}{i:Ins}(hb:z6 i.kind 1 19=true):ZY p i (zK i.kind) (zK i.kind).size→UE i (zK i.kind) (zK i.kind).size→ZX (zK i.kind) i (zK i.kind).size≠⟨i.kind,0,0,0,0,0⟩→zY p i=1:=fun hn hr hf=>by
 have:j5 i=true:=by
  cases h:j5 i with
  | true=>rfl
  | false=>exact absurd ((G9 hb).1 h) hf
 simp[zY,hb,Vq hb hn,XA hb hr,this]
theorem zhb {p:Pg}{i:Ins}(hb:z6 i.kind 1 19=true):ZY p i (zK i.kind) (zK i.kind).size→UE i (zK i.kind) (zK i.kind).size→ZX (zK i.kind) i (zK i.kind).size=⟨i.kind,0,0,0,0,0⟩→zY p i=0:=fun hn hr hf=>by
 simp[zY,hb,Vq hb hn,XA hb hr,(G9 hb).2 hf]
theorem zfv (p:Pg) (i:Ins) (hb:z6 i.kind 1 19=true) (hp:UU p) (w:World):
  Calls Tryz.prog 86 #[p.v,i.v] w fun e w'=>e=.returned (.int .i64 (zY p i))∧Below w.heap.size w w':=by
 obtain⟨wd,hlk⟩:=zeh hb
 have hfew:=Je hb
 have h5:=zg8 (p:=p) hb
 have h3:=zg9 (p:=p) hb
 have h1:=zha (p:=p) hb
 have h0:=zhb (p:=p) hb
 generalize zK i.kind=ns at hlk hfew h5 h3 h1 h0
 have H5:=Lib.hid h5
 have H3:=Lib.hid h3
 have H1:=Lib.hid h1
 have H0:=Lib.hid h0
 clear h5 h3 h1 h0
 have HLK:=Lib.hid hlk
 have HB:=Lib.hid hb
 obtain⟨v1,v2,f1,f2,n1⟩:=hp
 clear hlk hb
 have hL:=Loc.start w
 go_enter Tryz.func86,Tryz.ntmps86
 go_step
 go_step
 go_step
 ((with_reducible refine lbx hL ?_);clear hL;intro b2 w1 hL)
 ((with_reducible refine lbx hL ?_);clear hL;intro b3 w1 hL)
 go_upto_region 1 with(fail)
 refine zf [11,12,13,14,10,15,16,5] ?_
 refine zh (VZ w1.heap.size (jo qV).toArray qV.length) VZ.stable ?_ ?_
 ·intro g w hb y;replace hL:=hL.grow hb;clear y;simp only[za,fLa,fLb,sTa,sTb]
  go_wp2_with (go_at_call 116;refine(Y7 _).mono ?_;rintro e w3 ⟨b,rfl,hge,hm,hb3⟩;dsimp only)
  exact⟨rfl,_,rfl,hb3,b,Nat.le_trans hb.size hge,rfl,hm⟩
 simp only[apN,apC]
 refine dv0 ?_
 refine dv1 1 ?_
 apply zb
 ·intro g w hb y;replace hL:=hL.grow hb;have d0:(VZ w1.heap.size (jo qV).toArray qV.length) (g 11) w:=yr y 0;obtain⟨bm,em,d0,fm⟩:=d0;have d2:=yv y 2;clear y;simp only[za,fLa,fLb,sTa,sTb];simp only[d0,d2]
  refine Vp (v:=.tuple #[.agg #[.string wd,.string ns],.bool true]) UF hzs fm (by unfold Kj;rw[HLK.out]) rfl rfl ?_
  exact cY
 simp only[apN,apC]
 refine dv1 3 ?_
 refine dv1 4 ?_
 refine dv1 4 ?_
 apply Qi
 ·intro g w hb y;replace hL:=hL.grow hb;clear y;simp only[za,fLa,fLb,sTa,sTb]
  go_wp2
  exact⟨rfl,_,rfl,(Below.refl _ _).alloc (Nat.le_refl _) _,_,hb.size,rfl,zI _ _⟩
 simp only[apN,apC]
 refine QA 6 hL (by kernel_rfl) (by kernel_rfl) (fun _ _ _ _ _ h=>h) ?_ ?_
 ·(refine Q0 rfl rfl ?_;intro g w hb y;(try simp[zi,List.filter_cons,Region.binds,z7,RAt]at y);simp only[za,List.foldl_cons,List.foldl_nil,List.set_cons_succ,List.set_cons_zero];(try simp only[y]);exact⟨_,.inl ⟨rfl,fun w=>(by go_simp<;>(try (split<;>(rename_i hs;simp[hs,cnd]))))⟩,rfl⟩)
 intro g w2 hb hR;simp only[List.length_cons,List.length_nil,Nat.reduceAdd]at hR
 have e0:(VZ w1.heap.size (jo qV).toArray qV.length) (g 11) w2:=yr hR 0
 obtain⟨bm,em,e0,fm⟩:=e0
 have e1:=yv hR 1
 have e2:=yv hR 2
 have e3:=yv hR 3
 have e4:=yv hR 4
 have e5:=yv hR 5
 have e6:=yv hR 6
 obtain⟨b7,p7,e7,c7⟩:=Q1 (zA hR (j:=7) (by decide)) rfl rfl
 clear hR;simp only[za,fLa,fLb,sTa,sTb]
 simp only[e0,e1,e2,e3,e4,e5,e6,e7]
 clear e0 e1 e2 e3 e4 e5 e6 e7
 replace hL:=hL.gain hb p7 c7
 clear p7 c7
 clear hb
 go_upto_region 5 with(first|(with_reducible first|refine lld hL ?_|(refine lal hL ?_;clear hL;intro bl w1 hL)|(refine zd hL ?_;clear hL;intro w1 hL)))
 obtain⟨bR,hbR⟩:∃ x,x=bl:=⟨_,rfl⟩
 subst hbR
 go_wp2_with (first|(with_reducible refine lld hL ?_))
 go_loopw [23] (fun c wr=>∃ k:Nat,k≤ns.size∧c=.int .i64 k∧ZY p i ns k∧Loc w wr [(bR,86,i.cells),(b7,162,[.string wd,.string ns]),(b3,86,i.cells),(b2,27,[.int .i64 p.vars,.int .i64 p.fields,.slice p.pc p.n p.cap])] []) (fun c _=>ns.size - (intOf c).toNat)
 case atStart=>exact⟨0,Nat.zero_le _,rfl,fun j hj=>absurd hj (by omega),hL⟩
 case round=>
  obtain⟨k,hk,rfl,hnamed,hL⟩:=hrel
  have HN:=Lib.hid hnamed
  clear hnamed
  by_cases hlt:k<ns.size
  ·go_upto_region 8 with(fail)
   refine zf [26,27,28,29,30,31,32,33,34,35,36,37,38,39] ?_
   refine dv0 ?_
   refine dv0 ?_
   refine dv1 1 ?_
   refine dv0 ?_
   refine dv2 2 3 ?_
   refine dv0 ?_
   refine dv1 5 ?_
   refine dv0 ?_
   refine dv2 6 7 ?_
   apply zb
   ·intro g w hb y;replace hL:=hL.grow hb;have d8:=yv y 8;clear y;simp only[za,fLa,fLb,sTa,sTb];simp only[d8]
    go_wp2_with (go_at_call 117;refine(KG b3 _ _).mono ?_;rintro e w' ⟨rfl,rfl⟩;dsimp only)
    exact⟨rfl,_,rfl,Below.refl _ _,rfl⟩
   simp only[apN,apC]
   refine dv1 9 ?_
   apply zb
   ·intro g w hb y;replace hL:=hL.grow hb;have d10:=yv y 10;clear y;simp only[za,fLa,fLb,sTa,sTb];simp only[d10]
    refine zR (b:=b3) hL rfl rfl cIn (ze.cell QQ (zce i _)) ?_
    exact cY
   simp only[apN,apC]
   apply zb
   ·intro g w hb y;replace hL:=hL.grow hb;have d0:=yv y 0;have d4:=yv y 4;have d11:=yv y 11;clear y;simp only[za,fLa,fLb,sTa,sTb];simp only[d0,d4,d11]
    go_wp2_with (go_at_call 133;refine(zdp p _ _ v1 v2 f1 f2 _).mono ?_;rintro e w3 ⟨rfl,hb3⟩;dsimp only)
    exact⟨rfl,_,rfl,hb3,rfl⟩
   simp only[apN,apC]
   refine dv1 12 ?_
   refine dnd hL ?_
   clear hL;intro w2 hL;simp only[zV,sTa,sTb]
   simp only[Yp hlt]
   cases hN:Jz p (qE ns k) (Zb i (qE ns k)) with
   | false=>
    have HN1:=Lib.hid hN
    clear hN
    go_wp2
    refine rt1 ?_
    exact⟨by rw[H5.out k hlt HN1.out];rfl,hL.below⟩
   | true=>
    have HN1:=Lib.hid hN
    clear hN
    go_wp2
    go_roundw
    case rel=>
     refine⟨k+1,by omega,by go_num,fun j hj=>?_,hL⟩
     rcases Nat.lt_or_ge j k with h|h
     ·exact HN.out j h
     ·obtain rfl:j=k:=by omega
      exact HN1.out
    case measure=>simp[intOf];omega
  ·obtain rfl:k=ns.size:=by omega
   clear hk hlt
   go_wp2_with (first|(with_reducible refine lld hL ?_))
   go_loopw [44] (fun c wr=>∃ k:Nat,k≤ns.size∧c=.int .i64 k∧UE i ns k∧Loc w wr [(bR,86,(ZX ns i k).cells),(b7,162,[.string wd,.string ns]),(b3,86,i.cells),(b2,27,[.int .i64 p.vars,.int .i64 p.fields,.slice p.pc p.n p.cap])] []) (fun c _=>ns.size - (intOf c).toNat)
   case atStart=>exact⟨0,Nat.zero_le _,rfl,fun j hj=>absurd hj (by omega),hL⟩
   case round=>
    obtain⟨k,hk,rfl,hfine,hL⟩:=hrel
    have HG:=Lib.hid hfine
    clear hfine
    by_cases hlt:k<ns.size
    ·go_upto_region 14 with(fail)
     refine zf [47,48,49,50,51,52,53,54,55,56,57,58,59] ?_
     refine dv0 ?_
     refine dv1 0 ?_
     refine dv0 ?_
     refine dv2 1 2 ?_
     refine dv0 ?_
     refine dv1 4 ?_
     refine dv0 ?_
     refine dv2 5 6 ?_
     apply zb
     ·intro g w hb y;replace hL:=hL.grow hb;have d7:=yv y 7;clear y;simp only[za,fLa,fLb,sTa,sTb];simp only[d7]
      go_wp2_with (go_at_call 117;refine(KG b3 _ _).mono ?_;rintro e w' ⟨rfl,rfl⟩;dsimp only)
      exact⟨rfl,_,rfl,Below.refl _ _,rfl⟩
     simp only[apN,apC]
     refine dv1 8 ?_
     apply zb
     ·intro g w hb y;replace hL:=hL.grow hb;have d9:=yv y 9;clear y;simp only[za,fLa,fLb,sTa,sTb];simp only[d9]
      refine zR (b:=b3) hL rfl rfl cIn (ze.cell QQ (zce i _)) ?_
      exact cY
     simp only[apN,apC]
     apply zb
     ·intro g w hb y;replace hL:=hL.grow hb;have d3:=yv y 3;have d10:=yv y 10;clear y;simp only[za,fLa,fLb,sTa,sTb];simp only[d3,d10]
      go_wp2_with (go_at_call 134;refine(zeH _ _ _).mono ?_;rintro e w' ⟨rfl,rfl⟩;dsimp only)
      exact⟨rfl,_,rfl,Below.refl _ _,rfl⟩
     simp only[apN,apC]
     refine dv1 11 ?_
     refine dnd hL ?_
     clear hL;intro w2 hL;simp only[zV,sTa,sTb]
     simp only[Yp hlt]
     cases hN:Yb (qE ns k) (Zb i (qE ns k)) with
     | false=>
      have HN1:=Lib.hid hN
      clear hN
      go_wp2
      refine rt1 ?_
      exact⟨by rw[H3.out HN.out k hlt HN1.out];rfl,hL.below⟩
     | true=>
      have HN1:=Lib.hid hN
      clear hN
      go_upto_region 16 with(fail)
      go_wp2_with (first|(refine qa (b:=bR) (vs:=[.int .i64 0]) (cs':=(G8 (ZX ns i k) ((ns[k]'hlt).toNat:Int)).cells) hL jB rfl cIn rfl QQ.sz rfl (zcf _) (zei _ _) ?_;clear hL;intro w1 hL)|(with_reducible refine lld hL ?_)|(go_at_call 117;refine(KG bR _ _).mono ?_;rintro e w' ⟨rfl,rfl⟩;dsimp only))
      go_roundw
      case rel=>
       refine⟨k+1,by omega,by go_num,fun j hj=>?_,hL.conv (by rw[Yp hlt];rfl)⟩
       rcases Nat.lt_or_ge j k with h|h
       ·exact HG.out j h
       ·obtain rfl:j=k:=by omega
        exact HN1.out
      case measure=>simp[intOf];omega
    ·obtain rfl:k=ns.size:=by omega
     clear hk hlt
     have h1:=H1.out HN.out HG.out
     have h0:=H0.out HN.out HG.out
     generalize ZX ns i ns.size=r at h1 h0 hL
     obtain⟨rk,rt,ra,rb,rn,rg⟩:=r
     by_cases hr:(⟨rk,rt,ra,rb,rn,rg⟩:Ins)=⟨i.kind,0,0,0,0,0⟩
     ·have HF:=Lib.hid (h0 hr)
      simp only[Ins.mk.injEq]at hr
      obtain⟨rfl,rfl,rfl,rfl,rfl,rfl⟩:=hr
      clear h1 h0
      go_wp2_with (first|(with_reducible refine lld hL ?_))
      refine rt1 ?_
      exact⟨by rw[HF.out];rfl,hL.below⟩
     ·have HF:=Lib.hid (h1 hr)
      have HR:=Lib.hid hr
      clear h1 h0 hr
      go_wp2_with (first|(with_reducible refine lld hL ?_))
      all_goals
       refine rt1 ?_
       first
        | exact⟨by rw[HF.out];rfl,hL.below⟩
        | (exfalso;refine HR.out ?_;simp_all;done)
theorem zfw (p:Pg) (i:Ins) (hp:UU p) (w:World):
  Calls Tryz.prog 86 #[p.v,i.v] w fun e w'=>e=.returned (.int .i64 (zY p i))∧Below w.heap.size w w':=by
 cases hb:z6 i.kind 1 19 with
 | true=>exact zfv p i hb hp w
 | false=>
  have h:=zgg p i hb w
  rw[show zY p i=6 by simp[zY,hb]]
  exact h
end Go.Proofs.YtplcndmdkabmeaaGreatDoor
