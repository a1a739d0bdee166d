/- The walk over the reference's CheckOne: one instruction. Conditions: the program's numbers are small. | The walk over the reference's CheckProgram. Conditions: the instructions lie in memory that was there. -/
import Derived.Test.YtplcndmdkabmeaaGreatDoorCod
set_option linter.unusedSimpArgs false
set_option linter.unusedVariables false
set_option maxRecDepth 100000
set_option maxHeartbeats 4000000
namespace Go.Proofs.YtplcndmdkabmeaaGreatDoor
open Go.RowKit
structure UU (p:Pg):Prop where
 v1:1≤p.vars
 v2:p.vars≤8
 f1:0≤p.fields
 f2:p.fields≤3
 n1:p.n≤60
theorem VW (p:Pg) (i:Ins) (hp:UU p) (w:World):
  Calls Tryz.prog 55 #[p.v,i.v] w fun e w'=>e=.returned (.int .i64 (zY p i))∧Below w.heap.size w w':=by
 obtain⟨v1,v2,f1,f2,n1⟩:=hp
 have hL:=Loc.start w
 cases hb:z6 i.kind 1 19 with
 | false=>
  have hs:Qv i.kind=⟨#[]⟩:=by simp[Qv,hb]
  have HW:=Lib.hid (fun w=>(by have h:=K1 i.kind w;rw[hs]at h;exact h:Calls Tryz.prog 71 #[.int .i64 i.kind] w fun e w'=>e=.returned (.string ⟨#[]⟩)∧Below w.heap.size w w'))
  have HF:=Lib.hid (show zY p i=6 by simp[zY,hb])
  clear hs hb
  go_enter Tryz.func55,Tryz.ntmps55
  go_wp2_with (first|(with_reducible first|refine lld hL ?_|(refine lbx hL ?_;clear hL;intro bl w1 hL))|(go_at_call 71;refine(HW.out _).mono ?_;rintro e w1 ⟨rfl,hb⟩;replace hL:=hL.grow hb;clear hb;dsimp only))
  refine rt1 ?_
  exact⟨by rw[HF.out];rfl,hL.below⟩
 | true=>
  have hw:=K1 i.kind
  have hne:=zbI hb
  generalize Qv i.kind=ws at hw hne
  have HW:=Lib.hid hw
  have HF:=Lib.hid (show zY p i=if YR p i then 5 else if J1 i then 3 else if j5 i then 1 else 0 by simp[zY,hb])
  have ne2:(!ws.toList.isEmpty)=true:=by simp[hne]
  have ne3:¬ ws.toList=[]:=by simpa using hne
  clear hw hb
  go_enter Tryz.func55,Tryz.ntmps55
  go_upto_region 5 with(first|(with_reducible first|refine lld hL ?_|(refine lbx hL ?_;clear hL;intro bl w1 hL))|(go_at_call 71;refine(HW.out _).mono ?_;rintro e w1 ⟨rfl,hb⟩;replace hL:=hL.grow hb;clear hb;dsimp only))
  clear hne ne2 ne3
  refine zJ [15,16,17,18,19,20,21,22,23,24,25,26,27,28,29,30,31,32,33,34,35,36,37,38,39,40,41,42,43,44,45,46,47,48,49,50,51,52,53,54,55,56,57,58,59,60,61,62,63,64,65,66,67,68,69,70,71,72,73,74,75] ?_
  refine dv0 ?_
  apply zb
  ·intro g w hb y;replace hL:=hL.grow hb;have d0:=yv y 0;clear y;simp only[za,fLa,fLb,sTa,sTb];simp only[d0]
   go_wp2_with (go_at_call 73;refine(Ja _ _).mono ?_;rintro e w3 ⟨rfl,hb3⟩;dsimp only)
   exact⟨rfl,_,rfl,hb3,rfl⟩
  simp only[apN,apC]
  refine dv1 1 ?_
  refine dg0 2 ?_
  refine dg1 2 3 ?_
  refine dg0 2 ?_
  refine' zG (j:=2) rfl rfl rfl (by decide) (by simp) ?_ ?_;rotate_left
  ·intro hcs;simp only[Bool.and_eq_true,jp,jq]at hcs;intro g w hb y;replace hL:=hL.grow hb;have d4:=yv y 4;simp only[hcs,beq_self_eq_true,Bool.and_self,Bool.true_and,Bool.and_true,zr]at d4;have d5:=yv y 5;simp only[hcs,beq_self_eq_true,Bool.and_self,Bool.true_and,Bool.and_true,zr]at d5;clear y;simp only[za,fLa,fLb,sTa,sTb];simp only[d4,d5]
   go_wp2_with (go_at_call 54;refine(qp _ _ _ _).mono ?_;rintro e w' ⟨rfl,rfl⟩;dsimp only)
   exact⟨rfl,_,rfl,Below.refl _ _,rfl⟩
  simp only[apN,apC]
  refine dg1 2 6 ?_
  refine dpa 2 7 ?_
  refine dv1 8 ?_
  refine dg0 9 ?_
  refine' zG (j:=9) rfl rfl rfl (by decide) (by simp) ?_ ?_;rotate_left
  ·intro hcs;simp only[Bool.and_eq_true,jp,jq]at hcs;intro g w hb y;replace hL:=hL.grow hb;have d10:=yv y 10;simp only[hcs,beq_self_eq_true,Bool.and_self,Bool.true_and,Bool.and_true,zr]at d10;clear y;simp only[za,fLa,fLb,sTa,sTb];simp only[d10]
   go_wp2_with (go_at_call 74;refine(qe _ _).mono ?_;rintro e w3 ⟨rfl,hb3⟩;dsimp only)
   exact⟨rfl,_,rfl,hb3,rfl⟩
  simp only[apN,apC]
  refine dg1 9 11 ?_
  refine dc0 12 ?_
  refine dc1 12 13 ?_
  refine dc0 12 ?_
  refine' jN (j:=12) rfl rfl rfl (by decide) (by simp) ?_ ?_;rotate_left
  ·intro hcs;simp only[Bool.and_eq_true,jp,jq]at hcs;intro g w hb y;replace hL:=hL.grow hb;have d14:=yv y 14;simp only[hcs,beq_self_eq_true,Bool.and_self,Bool.true_and,Bool.and_true,zr]at d14;have d15:=yv y 15;simp only[hcs,beq_self_eq_true,Bool.and_self,Bool.true_and,Bool.and_true,zr]at d15;clear y;simp only[za,fLa,fLb,sTa,sTb];simp only[d14,d15]
   go_wp2_with (go_at_call 54;refine(qp _ _ _ _).mono ?_;rintro e w' ⟨rfl,rfl⟩;dsimp only)
   exact⟨rfl,_,rfl,Below.refl _ _,rfl⟩
  simp only[apN,apC]
  refine dc1 12 16 ?_
  refine ZR 9 12 17 ?_
  refine dpo 9 18 ?_
  refine dv1 19 ?_
  refine dg0 20 ?_
  refine' zG (j:=20) rfl rfl rfl (by decide) (by simp) ?_ ?_;rotate_left
  ·intro hcs;simp only[Bool.and_eq_true,jp,jq]at hcs;intro g w hb y;replace hL:=hL.grow hb;have d21:=yv y 21;simp only[hcs,beq_self_eq_true,Bool.and_self,Bool.true_and,Bool.and_true,zr]at d21;clear y;simp only[za,fLa,fLb,sTa,sTb];simp only[d21]
   go_wp2_with (go_at_call 75;refine(qg _ _).mono ?_;rintro e w3 ⟨rfl,hb3⟩;dsimp only)
   exact⟨rfl,_,rfl,hb3,rfl⟩
  simp only[apN,apC]
  refine dg1 20 22 ?_
  refine dc0 23 ?_
  refine dc1 23 24 ?_
  refine dc0 23 ?_
  refine' jN (j:=23) rfl rfl rfl (by decide) (by simp) ?_ ?_;rotate_left
  ·intro hcs;simp only[Bool.and_eq_true,jp,jq]at hcs;intro g w hb y;replace hL:=hL.grow hb;have d25:=yv y 25;simp only[hcs,beq_self_eq_true,Bool.and_self,Bool.true_and,Bool.and_true,zr]at d25;have d26:=yv y 26;simp only[hcs,beq_self_eq_true,Bool.and_self,Bool.true_and,Bool.and_true,zr]at d26;clear y;simp only[za,fLa,fLb,sTa,sTb];simp only[d25,d26]
   go_wp2_with (go_at_call 54;refine(qp _ _ _ _).mono ?_;rintro e w' ⟨rfl,rfl⟩;dsimp only)
   exact⟨rfl,_,rfl,Below.refl _ _,rfl⟩
  simp only[apN,apC]
  refine dc1 23 27 ?_
  refine ZR 20 23 28 ?_
  refine dpo 20 29 ?_
  refine dv1 30 ?_
  refine dg0 31 ?_
  refine dg1 31 32 ?_
  refine dg1 31 33 ?_
  refine dc0 34 ?_
  refine dc1 34 35 ?_
  refine zfZ 31 34 36 ?_
  refine dg1 31 37 ?_
  refine dc0 38 ?_
  refine dc1 38 39 ?_
  refine dc0 38 ?_
  refine dc1 38 41 ?_
  refine dc1 38 42 ?_
  refine' jN (j:=38) rfl rfl rfl (by decide) (by simp) ?_ ?_;rotate_left
  ·intro hcs;simp only[Bool.and_eq_true,jp,jq]at hcs;intro g w hb y;replace hL:=hL.grow hb;have d40:=yv y 40;simp only[hcs,beq_self_eq_true,Bool.and_self,Bool.true_and,Bool.and_true,zr]at d40;have d43:=yv y 43;simp only[hcs,beq_self_eq_true,Bool.and_self,Bool.true_and,Bool.and_true,zr]at d43;clear y;simp only[za,fLa,fLb,sTa,sTb];simp only[d40,d43]
   go_wp2_with (go_at_call 54;refine(qp _ _ _ _).mono ?_;rintro e w' ⟨rfl,rfl⟩;dsimp only)
   exact⟨rfl,_,rfl,Below.refl _ _,rfl⟩
  simp only[apN,apC]
  refine dc1 38 44 ?_
  refine ZR 31 38 45 ?_
  refine dpo 31 46 ?_
  refine dv1 47 ?_
  refine dg0 48 ?_
  refine' zG (j:=48) rfl rfl rfl (by decide) (by simp) ?_ ?_;rotate_left
  ·intro hcs;simp only[Bool.and_eq_true,jp,jq]at hcs;intro g w hb y;replace hL:=hL.grow hb;have d49:=yv y 49;simp only[hcs,beq_self_eq_true,Bool.and_self,Bool.true_and,Bool.and_true,zr]at d49;clear y;simp only[za,fLa,fLb,sTa,sTb];simp only[d49]
   go_wp2_with (go_at_call 77;refine(Qt _ _).mono ?_;rintro e w3 ⟨rfl,hb3⟩;dsimp only)
   exact⟨rfl,_,rfl,hb3,rfl⟩
  simp only[apN,apC]
  refine dg1 48 50 ?_
  refine dc0 51 ?_
  refine dc1 51 52 ?_
  refine dc0 51 ?_
  refine dc1 51 54 ?_
  refine dc1 51 55 ?_
  refine' jN (j:=51) rfl rfl rfl (by decide) (by simp) ?_ ?_;rotate_left
  ·intro hcs;simp only[Bool.and_eq_true,jp,jq]at hcs;intro g w hb y;replace hL:=hL.grow hb;have d53:=yv y 53;simp only[hcs,beq_self_eq_true,Bool.and_self,Bool.true_and,Bool.and_true,zr]at d53;have d56:=yv y 56;simp only[hcs,beq_self_eq_true,Bool.and_self,Bool.true_and,Bool.and_true,zr]at d56;clear y;simp only[za,fLa,fLb,sTa,sTb];simp only[d53,d56]
   go_wp2_with (go_at_call 54;refine(qp _ _ _ _).mono ?_;rintro e w' ⟨rfl,rfl⟩;dsimp only)
   exact⟨rfl,_,rfl,Below.refl _ _,rfl⟩
  simp only[apN,apC]
  refine dc1 51 57 ?_
  refine ZR 48 51 58 ?_
  refine dpo 48 59 ?_
  refine dns hL ?_
  clear hL;intro w2 hL;simp only[zV,sTa,sTb]
  cases h1:YR p i with
  | true=>
   have h0:=h1
   unfold YR at h0
   simp only[h0]
   clear h0
   have H:=Lib.hid h1
   clear h1
   go_wp2
   refine rt1 ?_
   exact⟨by rw[HF.out,if_pos H.out];rfl,hL.below⟩
  | false=>
  have h0:=h1
  unfold YR at h0
  simp only[h0]
  clear h0
  have Hh1:=Lib.hid h1
  clear h1
  go_upto_region 7 with(fail)
  refine zJ [76,77,78,79,80,81,82,83,84,85,86,87,88,89,90,91,92,93,94,95,96,97,98,99,100,101,102,103] ?_
  refine dv0 ?_
  refine dv1 0 ?_
  refine dv1 1 ?_
  refine dg0 2 ?_
  refine dg1 2 3 ?_
  refine' zG (j:=2) rfl rfl rfl (by decide) (by simp) ?_ ?_;rotate_left
  ·intro hcs;simp only[Bool.and_eq_true,jp,jq]at hcs;intro g w hb y;replace hL:=hL.grow hb;have d4:=yv y 4;simp only[hcs,beq_self_eq_true,Bool.and_self,Bool.true_and,Bool.and_true,zr]at d4;clear y;simp only[za,fLa,fLb,sTa,sTb];simp only[d4]
   go_wp2_with (go_at_call 54;refine(qp _ _ _ _).mono ?_;rintro e w' ⟨rfl,rfl⟩;dsimp only)
   exact⟨rfl,_,rfl,Below.refl _ _,rfl⟩
  simp only[apN,apC]
  refine dg1 2 5 ?_
  refine dpa 2 6 ?_
  refine dv1 7 ?_
  refine dg0 8 ?_
  refine dg1 8 9 ?_
  refine dg1 8 10 ?_
  refine dc0 11 ?_
  refine dc1 11 12 ?_
  refine' jN (j:=11) rfl rfl rfl (by decide) (by simp) ?_ ?_;rotate_left
  ·intro hcs;simp only[Bool.and_eq_true,jp,jq]at hcs;intro g w hb y;replace hL:=hL.grow hb;have d13:=yv y 13;simp only[hcs,beq_self_eq_true,Bool.and_self,Bool.true_and,Bool.and_true,zr]at d13;clear y;simp only[za,fLa,fLb,sTa,sTb];simp only[d13]
   go_wp2_with (go_at_call 54;refine(qp _ _ _ _).mono ?_;rintro e w' ⟨rfl,rfl⟩;dsimp only)
   exact⟨rfl,_,rfl,Below.refl _ _,rfl⟩
  simp only[apN,apC]
  refine dc1 11 14 ?_
  refine ZR 8 11 15 ?_
  refine dpo 8 16 ?_
  refine dv1 17 ?_
  refine dg0 18 ?_
  refine dg1 18 19 ?_
  refine dg1 18 20 ?_
  refine dc0 21 ?_
  refine dc1 21 22 ?_
  refine' jN (j:=21) rfl rfl rfl (by decide) (by simp) ?_ ?_;rotate_left
  ·intro hcs;simp only[Bool.and_eq_true,jp,jq]at hcs;intro g w hb y;replace hL:=hL.grow hb;have d23:=yv y 23;simp only[hcs,beq_self_eq_true,Bool.and_self,Bool.true_and,Bool.and_true,zr]at d23;clear y;simp only[za,fLa,fLb,sTa,sTb];simp only[d23]
   go_wp2_with (go_at_call 54;refine(qp _ _ _ _).mono ?_;rintro e w' ⟨rfl,rfl⟩;dsimp only)
   exact⟨rfl,_,rfl,Below.refl _ _,rfl⟩
  simp only[apN,apC]
  refine dc1 21 24 ?_
  refine ZR 18 21 25 ?_
  refine dpo 18 26 ?_
  refine dns hL ?_
  clear hL;intro w3 hL;simp only[zV,sTa,sTb]
  cases h2:J1 i with
  | true=>
   have h0:=h2
   unfold J1 at h0
   simp only[h0]
   clear h0
   have H:=Lib.hid h2
   clear h2
   go_wp2
   refine rt1 ?_
   exact⟨by rw[HF.out,if_neg (by rw[Hh1.out];decide),if_pos H.out];rfl,hL.below⟩
  | false=>
  have h0:=h2
  unfold J1 at h0
  simp only[h0]
  clear h0
  have Hh2:=Lib.hid h2
  clear h2
  go_upto_region 9 with(fail)
  refine zJ [104,105,106,107,108,109,110,111,112,113,114,115,116,117,118,119,120,121,122,123,124,125,126,127,128,129,130,131,132,133,134,135,136,137,138,139,140,141,142,143,144,145,146,147,148,149,150,151] ?_
  refine dv0 ?_
  apply zb
  ·intro g w hb y;replace hL:=hL.grow hb;have d0:=yv y 0;clear y;simp only[za,fLa,fLb,sTa,sTb];simp only[d0]
   go_wp2_with (go_at_call 73;refine(Ja _ _).mono ?_;rintro e w3 ⟨rfl,hb3⟩;dsimp only)
   exact⟨rfl,_,rfl,hb3,rfl⟩
  simp only[apN,apC]
  refine dv1 1 ?_
  refine dv1 2 ?_
  refine dg0 3 ?_
  refine dg1 3 4 ?_
  refine dg1 3 5 ?_
  refine dpa 3 6 ?_
  refine dv1 7 ?_
  refine dg0 8 ?_
  refine' zG (j:=8) rfl rfl rfl (by decide) (by simp) ?_ ?_;rotate_left
  ·intro hcs;simp only[Bool.and_eq_true,jp,jq]at hcs;intro g w hb y;replace hL:=hL.grow hb;have d9:=yv y 9;simp only[hcs,beq_self_eq_true,Bool.and_self,Bool.true_and,Bool.and_true,zr]at d9;clear y;simp only[za,fLa,fLb,sTa,sTb];simp only[d9]
   go_wp2_with (go_at_call 74;refine(qe _ _).mono ?_;rintro e w3 ⟨rfl,hb3⟩;dsimp only)
   exact⟨rfl,_,rfl,hb3,rfl⟩
  simp only[apN,apC]
  refine dg1 8 10 ?_
  refine dg1 8 11 ?_
  refine dc0 12 ?_
  refine dc1 12 13 ?_
  refine dc1 12 14 ?_
  refine ZR 8 12 15 ?_
  refine dpo 8 16 ?_
  refine dv1 17 ?_
  refine dg0 18 ?_
  refine' zG (j:=18) rfl rfl rfl (by decide) (by simp) ?_ ?_;rotate_left
  ·intro hcs;simp only[Bool.and_eq_true,jp,jq]at hcs;intro g w hb y;replace hL:=hL.grow hb;have d19:=yv y 19;simp only[hcs,beq_self_eq_true,Bool.and_self,Bool.true_and,Bool.and_true,zr]at d19;clear y;simp only[za,fLa,fLb,sTa,sTb];simp only[d19]
   go_wp2_with (go_at_call 75;refine(qg _ _).mono ?_;rintro e w3 ⟨rfl,hb3⟩;dsimp only)
   exact⟨rfl,_,rfl,hb3,rfl⟩
  simp only[apN,apC]
  refine dg1 18 20 ?_
  refine dg1 18 21 ?_
  refine dc0 22 ?_
  refine dc1 22 23 ?_
  refine dc1 22 24 ?_
  refine ZR 18 22 25 ?_
  refine dpo 18 26 ?_
  refine dv1 27 ?_
  refine dg0 28 ?_
  refine' zG (j:=28) rfl rfl rfl (by decide) (by simp) ?_ ?_;rotate_left
  ·intro hcs;simp only[Bool.and_eq_true,jp,jq]at hcs;intro g w hb y;replace hL:=hL.grow hb;have d29:=yv y 29;simp only[hcs,beq_self_eq_true,Bool.and_self,Bool.true_and,Bool.and_true,zr]at d29;clear y;simp only[za,fLa,fLb,sTa,sTb];simp only[d29]
   go_wp2_with (go_at_call 76;refine(Ya _ _).mono ?_;rintro e w3 ⟨rfl,hb3⟩;dsimp only)
   exact⟨rfl,_,rfl,hb3,rfl⟩
  simp only[apN,apC]
  refine dg1 28 30 ?_
  refine dg1 28 31 ?_
  refine dc0 32 ?_
  refine dc1 32 33 ?_
  refine dc1 32 34 ?_
  refine ZR 28 32 35 ?_
  refine dpo 28 36 ?_
  refine dv1 37 ?_
  refine dg0 38 ?_
  refine' zG (j:=38) rfl rfl rfl (by decide) (by simp) ?_ ?_;rotate_left
  ·intro hcs;simp only[Bool.and_eq_true,jp,jq]at hcs;intro g w hb y;replace hL:=hL.grow hb;have d39:=yv y 39;simp only[hcs,beq_self_eq_true,Bool.and_self,Bool.true_and,Bool.and_true,zr]at d39;clear y;simp only[za,fLa,fLb,sTa,sTb];simp only[d39]
   go_wp2_with (go_at_call 77;refine(Qt _ _).mono ?_;rintro e w3 ⟨rfl,hb3⟩;dsimp only)
   exact⟨rfl,_,rfl,hb3,rfl⟩
  simp only[apN,apC]
  refine dg1 38 40 ?_
  refine dg1 38 41 ?_
  refine dc0 42 ?_
  refine dc1 42 43 ?_
  refine dc1 42 44 ?_
  refine ZR 38 42 45 ?_
  refine dpo 38 46 ?_
  refine dns hL ?_
  clear hL;intro w4 hL;simp only[zV,sTa,sTb]
  cases h3:j5 i with
  | true=>
   have h0:=h3
   unfold j5 at h0
   simp only[h0]
   clear h0
   have H:=Lib.hid h3
   clear h3
   go_wp2
   refine rt1 ?_
   exact⟨by rw[HF.out,if_neg (by rw[Hh1.out];decide),if_neg (by rw[Hh2.out];decide),if_pos H.out];rfl,hL.below⟩
  | false=>
  have h0:=h3
  unfold j5 at h0
  simp only[h0]
  clear h0
  have Hh3:=Lib.hid h3
  clear h3
  go_wp2
  refine rt1 ?_
  exact⟨by rw[HF.out,if_neg (by rw[Hh1.out];decide),if_neg (by rw[Hh2.out];decide),if_neg (by rw[Hh3.out];decide)];rfl,hL.below⟩
def yf (f:Nat→Int):Nat→Nat→Int
 | _,0=>0
 | k,m+1=>if f k≠0 then f k else yf f (k+1) m
def Qh (p:Pg):Bool:=!z6 p.vars 1 8 || !z6 p.fields 0 3
def zl (p:Pg) (is:Nat→Ins):Int:=if Qh p then 3 else if 60<p.n then 2 else yf (fun k=>zY p (is k)) 0 p.n
def qc (w:World) (p:Pg) (is:Nat→Ins):Prop:=∃ b o:Nat,(0<p.n→p.pc=some ⟨b,o,none⟩)∧∀ k,k<p.n→b<w.heap.size∧∀ j v,(is k).cells[j]? = some v→w.cell? ⟨b,o+k*6+j,none⟩=some v
theorem qc.reads {w:World}{p:Pg}{is:Nat→Ins}(h:qc w p is):∃ b o:Nat,(0<p.n→p.pc=some ⟨b,o,none⟩)∧∀ k,k<p.n→zg Tryz.prog 86 w b (o+k*6) (is k).v:=by
 obtain⟨b,o,h1,h2⟩:=h
 exact⟨b,o,h1,fun k hk=>zg.agg jE (h2 k hk).1 (fun j v hj=>(h2 k hk).2 j v hj) rfl⟩
theorem qc.kinds {w:World}{p:Pg}{is:Nat→Ins}(h:qc w p is):∃ b o:Nat,(0<p.n→p.pc=some ⟨b,o,none⟩)∧∀ k,k<p.n→zg Tryz.prog 3 w b (o+k*6) (.int .i64 (is k).kind):=by
 obtain⟨b,o,h1,h2⟩:=h
 exact⟨b,o,h1,fun k hk=>zg.cell QQ (h2 k hk).1 ((h2 k hk).2 0 _ rfl)⟩
theorem qc.grow {w w' : World}{p:Pg}{is:Nat→Ins}(h:qc w p is) (hb:Below w.heap.size w w'):qc w' p is:=by
 obtain⟨b,o,h1,h2⟩:=h
 exact⟨b,o,h1,fun k hk=>⟨Nat.lt_of_lt_of_le (h2 k hk).1 hb.size,fun j v hj=>(hb.cell (p:=⟨b,o+k*6+j,none⟩) (h2 k hk).1).trans ((h2 k hk).2 j v hj)⟩⟩
theorem UV {p:Pg}(h:Qh p=false) (hn:¬ 60<p.n):UU p:=by
 simp[Qh,z6]at h
 exact⟨by omega,by omega,by omega,by omega,by omega⟩
theorem Ke (p:Pg) (is:Nat→Ins) (w:World) (hc:qc w p is) (hn:p.n≤9223372036854775807):
  Calls Tryz.prog 22 #[p.v] w fun e w'=>e=.returned (.int .i64 (zl p is))∧Below w.heap.size w w':=by
 obtain⟨b,o,hpc,hc⟩:=hc.reads
 have HP:=Lib.hid hpc
 have HC:=Lib.hid hc
 clear hpc hc
 have HF:=Lib.hid (show zl p is=if Qh p then 3 else if 60<p.n then 2 else yf (fun k=>zY p (is k)) 0 p.n from rfl)
 have hL:=Loc.start w
 go_enter Tryz.func22,Tryz.ntmps22
 go_step
 go_step
 go_step
 ((with_reducible refine lbx hL ?_);clear hL;intro b1 w1 hL)
 go_upto_region 1 with(fail)
 refine zJ [5,6,7,8,9,10,11,12,13,14] ?_
 refine dv0 ?_
 refine dv1 0 ?_
 apply zb
 ·intro g w hb y;replace hL:=hL.grow hb;have d1:=yv y 1;clear y;simp only[za,fLa,fLb,sTa,sTb];simp only[d1]
  go_wp2_with (go_at_call 54;refine(qp _ _ _ _).mono ?_;rintro e w' ⟨rfl,rfl⟩;dsimp only)
  exact⟨rfl,_,rfl,Below.refl _ _,rfl⟩
 simp only[apN,apC]
 refine dv1 2 ?_
 refine dv1 3 ?_
 refine dg0 4 ?_
 refine dg1 4 5 ?_
 refine' zG (j:=4) rfl rfl rfl (by decide) (by simp) ?_ ?_;rotate_left
 ·intro hcs;simp only[Bool.and_eq_true,jp,jq]at hcs;intro g w hb y;replace hL:=hL.grow hb;have d6:=yv y 6;simp only[hcs,beq_self_eq_true,Bool.and_self,Bool.true_and,Bool.and_true,zr]at d6;clear y;simp only[za,fLa,fLb,sTa,sTb];simp only[d6]
  go_wp2_with (go_at_call 54;refine(qp _ _ _ _).mono ?_;rintro e w' ⟨rfl,rfl⟩;dsimp only)
  exact⟨rfl,_,rfl,Below.refl _ _,rfl⟩
 simp only[apN,apC]
 refine dg1 4 7 ?_
 refine dpo 4 8 ?_
 refine dns hL ?_
 clear hL;intro w2 hL;simp only[zV,sTa,sTb]
 cases h1:Qh p with
 | true=>
  have h0:=h1
  unfold Qh at h0
  simp only[h0]
  clear h0
  have H1:=Lib.hid h1
  clear h1
  go_wp2
  refine rt1 ?_
  exact⟨by rw[HF.out,if_pos H1.out];rfl,hL.below⟩
 | false=>
 have h0:=h1
 unfold Qh at h0
 simp only[h0]
 clear h0
 have H1:=Lib.hid h1
 clear h1
 by_cases hm:60<p.n
 ·go_wp2_with (first|(with_reducible refine lld hL ?_))
  refine rt1 ?_
  exact⟨by rw[HF.out,if_neg (by rw[H1.out];decide),if_pos hm];rfl,hL.below⟩
 have HS:=Lib.hid (UV H1.out hm)
 have HG:=Lib.hid (show zl p is=yf (fun k=>zY p (is k)) 0 p.n from by rw[HF.out,if_neg (by rw[H1.out];decide),if_neg hm])
 have hle:p.n≤60:=by omega
 clear hm
 go_wp2_with (first|(with_reducible refine lld hL ?_))
 go_loopw [3] (fun c wr=>∃ k:Nat,k≤p.n∧c=.int .i64 k∧zl p is=yf (fun k=>zY p (is k)) k (p.n - k)∧Loc w wr [(b1,27,[.int .i64 p.vars,.int .i64 p.fields,.slice p.pc p.n p.cap])] []) (fun c _=>p.n - (intOf c).toNat)
 case atStart=>exact⟨0,Nat.zero_le _,rfl,HG.out,hL⟩
 case round=>
  obtain⟨k,hk,rfl,hg,hL⟩:=hrel
  have HK:=Lib.hid hg
  clear hg
  by_cases hlt:k<p.n
  ·obtain⟨m,hm⟩:∃ m,p.n - k=m+1:=⟨p.n - k - 1,by omega⟩
   have hstep:=HK.out
   rw[hm,yf]at hstep
   have hm2:p.n - (k+1)=m:=by omega
   rw[← hm2]at hstep
   have HST:=Lib.hid hstep
   have hp:=HP.out (by omega)
   have HPC:=Lib.hid hp
   have hr:=HC.out k hlt
   have hone:=VW p (is k) HS.out
   have HR:=Lib.hid hr
   clear hstep hm hm2 hp hr
   by_cases he:zY p (is k)=0
   ·rw[he]at hone
    have HO:=Lib.hid hone
    have HE:=Lib.hid he
    clear hone he
    go_upto_region 8 with(first|(with_reducible refine lld hL ?_))
    refine zf [26,27,28,29,30,31,32,4] ?_
    refine dv0 ?_
    refine dv0 ?_
    refine dv1 1 ?_
    refine dv0 ?_
    apply zb
    ·intro g w hb y;replace hL:=hL.grow hb;have d2:=yv y 2;have d3:=yv y 3;clear y;simp only[za,fLa,fLb,sTa,sTb];simp only[d2,d3]
     (simp only[HPC.out];go_wp2)
     exact cY
    simp only[apN,apC]
    apply zb
    ·intro g w hb y;replace hL:=hL.grow hb;have d4:=yv y 4;clear y;simp only[za,fLa,fLb,sTa,sTb];simp only[d4]
     refine zo HR.out hL rfl rfl ?_
     exact cY
    simp only[apN,apC]
    apply zb
    ·intro g w hb y;replace hL:=hL.grow hb;have d0:=yv y 0;have d5:=yv y 5;clear y;simp only[za,fLa,fLb,sTa,sTb];simp only[d0,d5]
     go_wp2_with (go_at_call 55;refine(HO.out _).mono ?_;rintro e w3 ⟨rfl,hb3⟩;dsimp only)
     exact⟨rfl,_,rfl,hb3,rfl⟩
    simp only[apN,apC]
    refine dv1 6 ?_
    refine dnd hL ?_
    clear hL;intro w2 hL;simp only[zV,sTa,sTb]
    go_wp2
    go_roundw
    case rel=>exact⟨k+1,by omega,by go_num,by have h:=HST.out;rw[if_neg (by simp[HE.out])]at h;exact h,hL⟩
    case measure=>simp[intOf];omega
   ·have hst:zl p is=zY p (is k):=by have h:=HST.out;rw[if_pos he]at h;exact h
    have hne:(zY p (is k) != 0)=true:=by simp[he]
    generalize zY p (is k)=ce at hone hst hne
    have HO:=Lib.hid hone
    have HE:=Lib.hid hst
    clear hone hst he
    go_upto_region 8 with(first|(with_reducible refine lld hL ?_))
    refine zf [26,27,28,29,30,31,32,4] ?_
    refine dv0 ?_
    refine dv0 ?_
    refine dv1 1 ?_
    refine dv0 ?_
    apply zb
    ·intro g w hb y;replace hL:=hL.grow hb;have d2:=yv y 2;have d3:=yv y 3;clear y;simp only[za,fLa,fLb,sTa,sTb];simp only[d2,d3]
     (simp only[HPC.out];go_wp2)
     exact cY
    simp only[apN,apC]
    apply zb
    ·intro g w hb y;replace hL:=hL.grow hb;have d4:=yv y 4;clear y;simp only[za,fLa,fLb,sTa,sTb];simp only[d4]
     refine zo HR.out hL rfl rfl ?_
     exact cY
    simp only[apN,apC]
    apply zb
    ·intro g w hb y;replace hL:=hL.grow hb;have d0:=yv y 0;have d5:=yv y 5;clear y;simp only[za,fLa,fLb,sTa,sTb];simp only[d0,d5]
     go_wp2_with (go_at_call 55;refine(HO.out _).mono ?_;rintro e w3 ⟨rfl,hb3⟩;dsimp only)
     exact⟨rfl,_,rfl,hb3,rfl⟩
    simp only[apN,apC]
    refine dv1 6 ?_
    refine dnd hL ?_
    clear hL;intro w2 hL;simp only[zV,sTa,sTb]
    go_wp2
    refine rt1 ?_
    exact⟨by rw[HE.out];rfl,hL.below⟩
  ·go_wp2_with (first|(with_reducible refine lld hL ?_))
   refine rt1 ?_
   exact⟨by rw[HK.out,show p.n - k=0 by omega];rfl,hL.below⟩
theorem YB {f:Nat→Int}:∀ {m k:Nat},yf f k m=0→∀ j,j<m→f (k+j)=0
 | 0,_,_,j,hj=>absurd hj (by omega)
 | m+1,k,h,j,hj=>by
  unfold yf at h
  split at h
  ·rename_i h1;exact absurd h h1
  ·rename_i h1
   rcases Nat.eq_zero_or_pos j with rfl|hj0
   ·simpa using h1
   ·have:=YB h (j - 1) (by omega)
    rwa [show k+1+(j - 1)=k+j by omega]at this
theorem zx {p:Pg}{is:Nat→Ins}(h:zl p is=0):UU p∧∀ k,k<p.n→zY p (is k)=0:=by
 unfold zl at h
 split at h
 ·cases h
 rename_i h1
 split at h
 ·cases h
 rename_i h2
 exact⟨UV (by simpa using h1) h2,fun k hk=>by simpa using YB h k hk⟩
end Go.Proofs.YtplcndmdkabmeaaGreatDoor
