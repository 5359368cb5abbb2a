/- Texts of this proof, one behind the other. -/
import Derived.Test.YtodhbhanmdfdeaaGreatQFc
import Derived.Test.YtodhbhanmdfdeaaGreatQRef20b
import Derived.Test.YtodhbhanmdfdeaaGreatQSpRef3
import Derived.Test.YtodhbhanmdfdeaaGreatQSpAuto
import Derived.Test.YtodhbhanmdfdeaaGreatQSame2
section
/- Texts of this proof. -/
open Go Go.Sp
set_option maxRecDepth 100000
attribute [local irreducible] obj Own OwnP
namespace Go.Proofs.YtodhbhanmdfdeaaGreat
theorem r20put_c {r : Fr} {cs : List Value} {h : HeldT} (hr : HeldRp.rel r cs h) (hB : HeldB h) :
  Con Tryz.prog 18 #[.agg cs.toArray] r [] (Ret fun v η => ∃ a c, v = .tuple #[.slice a (imgOut h).length c, .int .i64 (imgErr h)] ∧ η = [OwnP Rp.u8 5 (.slice a (imgOut h).length c) (imgOut h)]) := by
 obtain ⟨xa0, xa1, xa2, xa3, xc0, xc1, xc2, xc3, rfl, k0, k1, k2, k3⟩ := HeldRp.sh hr
 have kr0 := k0
 have kr1 := k1
 have kr2 := k2
 refine Con.of (n := 126) _ rfl Tryz.func18 rfl rfl rfl fun g hg R hR => ?_
 have hr := hr.mono hg
 have k3 := k3.mono hg
 refine S.seq <| S.region rfl <| O.opE (.p rfl) (.box (cs := [_, _, _, _]) rfl rfl) ?_
 rintro _ _ ⟨b1, rfl, rfl⟩
 refine O.q 2 rfl <| O.nil <| S.seq <| S.seq <| S.frzO (by repeat (first | exact zh | apply zt)) fun g hs hm hb1 => ?_
 replace hg := Fr.sub_trans hg hs
 replace hR := melted hR hm
 try replace hr := hr.mono hs
 try replace k3 := k3.mono hs
 clear hs hm
 cases e : (imgW h).isSome with
 | false =>
  have e0 : imgW h = none := by simpa using e
  have e1 : imgOut h = [] := by simp [imgOut, e0]
  have e2 : imgErr h = 4 := by simp [imgErr, e0]
  rw [e1, e2] at hR
  refine S.region rfl <| O.op (.p rfl) (.loadAgg Tryz.isAgg27 (by kernel_rfl) rfl hb1) ?_
  refine O.call0 (.p rfl) rfl F.ok21 rfl rfl ((r20right_c hr)) ?_
  rintro v16 _ ⟨rfl, rfl⟩
  try simp only [zx1, zx2, zx3]
  refine O.sF 16 rfl (by exact e) ?_
  refine O.op (.p rfl) (.not rfl) <| O.nil <| S.condT rfl <| S.seq <| S.region rfl <| O.q 2 rfl <| O.nil <| S.addNil (T := Rp.u8) (e := 5) ?_
  refine S.ret2 Tryz.results18 rfl rfl fun w hw => Holds.end_ hR hw ?_
  exact pk ⟨none, 0, rfl, rfl⟩
 | true =>
  obtain ⟨ob, e0⟩ := Option.isSome_iff_exists.1 e
  have e1 : imgOut h = heldB h := by rw [← imgW_out e0]; simp [imgOut, e0]
  have e2 : imgErr h = 0 := by simp [imgErr, e0]
  obtain ⟨p0, p1, p2⟩ := imgW_all e
  obtain ⟨⟨m0, m0'⟩, m1, m2, m3⟩ := hB
  have y0 : ∀ x ∈ h.1, (leafB x).length ≤ 5000000 := fun x hx => by
   have := m0' x hx; have := (p0 x hx).1; have := sB_le (p0 x hx).2.1; simp [leafB]; omega
  have y1 : ∀ x ∈ h.2.1, (bytesOf (rootB x)).length ≤ 161 := fun x hx => by have := rootB_length (p1 x hx); simp; omega
  have y2 : ∀ x ∈ h.2.2.1, (bytesOf (evdB x)).length ≤ 330 := fun x hx => by have := evdB_length (p2 x hx); simp; omega
  rw [e1, e2] at hR
  refine S.region rfl <| O.op (.p rfl) (.loadAgg Tryz.isAgg27 (by kernel_rfl) rfl hb1) ?_
  refine O.call0 (.p rfl) rfl F.ok21 rfl rfl ((r20right_c hr)) ?_
  rintro v16 _ ⟨rfl, rfl⟩
  try simp only [zx1, zx2, zx3]
  refine O.sT 16 rfl (by exact e) ?_
  refine O.op (.p rfl) (.not rfl) <| O.nil <| S.condF rfl <| S.skip <| S.seq <| S.region rfl <| O.op (.p rfl) (.fieldAddr F.fld27x0 rfl) <| O.op (.p rfl) (.loadAt F.flat22 rfl hb1 rfl) ?_
  refine O.op (.p rfl) (.len rfl Tryz.underlying22 rfl) <| O.call0 (.p rfl) rfl F.ok63 rfl rfl (refNumber_c _) ?_
  rintro v21 _ ⟨a21, c21, rfl, rfl⟩
  try simp only [zx1, zx2, zx3]
  refine O.q 1 rfl <| O.nil (S.seq (S.seq ?_))
  generalize hz0 : be h.1.length = z0
  have hzl0 : z0.length = 8 := by rw [← hz0]; rfl
  refine S.ownIs (T := Rp.u8) (e := 5) (v' := .slice a21 (z0 ++ rowsB leafB (h.1.take 0)).length c21) (xs' := (z0 ++ rowsB leafB (h.1.take 0))) (by repeat (first | exact zh | apply zt)) (by simp [rowsB, hzl0]) (by simp [rowsB, hzl0]) ?_
  refine S.slot 4 (v' := .slice a21 (z0 ++ rowsB leafB (h.1.take 0)).length c21) rfl (by simp [rowsB, hzl0]) ?_
  refine S.region rfl <| O.q 1 rfl <| O.nil <| S.block <| S.loopK2 (ι := Nat) (κ := Option Addr × Nat) (fun i q => i ≤ h.1.length) (fun i q => [(4, .slice q.1 (z0 ++ rowsB leafB (h.1.take i)).length q.2), (5, .int .i64 (i : Int))]) [(1, _)] (fun i q => [OwnP Rp.u8 5 (.slice q.1 (z0 ++ rowsB leafB (h.1.take i)).length q.2) (z0 ++ rowsB leafB (h.1.take i))]) (fun i q => h.1.length - i) (0) ((a21, c21)) (by simp) (.cons rfl (.cons rfl (.nil))) (.cons rfl (.nil)) rfl fun i q hx ih => ?_
  have hm1 := meltRefl (g := g)
  refine S.seq <| S.seq <| S.region rfl <| O.q 1 rfl <| O.op (.p rfl) (.fieldAddr F.fld27x0 rfl) <| O.op (.p rfl) (.loadAt F.flat22 rfl hb1 rfl) ?_
  refine O.op (.p rfl) (.len rfl Tryz.underlying22 rfl) <| O.op (.p rfl) (.lss rfl rfl) <| O.nil ?_
  first | refine S.condD rfl (fun h26 => ?_) (fun h26 => ?_) | refine S.condB rfl (fun h26 => ?_) (fun h26 => ?_)
  ·have hi : i < h.1.length := by omega
   have hle := rowsB_le leafB 5000000 (h.1.take i) fun x hx => y0 x (List.mem_of_mem_take hx)
   have hlt : (h.1.take i).length ≤ 3000 := by rw [List.length_take]; omega
   have htk : (z0 ++ rowsB leafB (h.1.take i)) ++ (bytesOf h.1[i].1 ++ bytesOf (sB h.1[i].2.1)) = (z0 ++ rowsB leafB (h.1.take (i + 1))) := by rw [rowsB_snoc _ _ _ hi, List.append_assoc]; rfl
   have hln : (z0 ++ rowsB leafB (h.1.take i)).length ≤ 20000000000 := by rw [List.length_append]; omega
   generalize (z0 ++ rowsB leafB (h.1.take i)) = so at htk hln ⊢
   have hp := p0 _ (List.getElem_mem hi)
   have hm := m0' _ (List.getElem_mem hi)
   have hso : sOut h.1[i].2.1 = sB h.1[i].2.1 := if_pos hp.2
   have hbl := sB_le hp.2.1
   have hfl : [so, bytesOf h.1[i].1, bytesOf (sB h.1[i].2.1)].flatten = z0 ++ rowsB leafB (h.1.take (i + 1)) := by rw [← htk]; simp
   have hfl2 : (so ++ (bytesOf h.1[i].1 ++ bytesOf (sB h.1[i].2.1))).length ≤ 100000000000 := by simp; omega
   rw [htk] at hfl2
   refine S.skip <| S.seq <| S.block <| S.seq <| S.region rfl <| O.op (.p rfl) (.fieldAddr F.fld27x0 rfl) <| O.op (.p rfl) (.loadAt F.flat22 rfl hb1 rfl) ?_
   refine O.q 1 rfl <| O.ib (.p rfl) Tryz.underlying22 F.size49 rfl rfl rfl kr0 hg (h := fun p33 cs33 hp33 hrr33 => ?_)
   have hr33 := Rp.rel.mono hrr33 hg
   obtain ⟨la1_33, lc1_33, rfl, ho0_33, ha1_33⟩ := LeafRp.sh hr33
   refine O.op (.p rfl) (.fieldAddr F.fld49x1 rfl) <| O.op (.p rfl) (.loadAt F.flat47 rfl (hp33.drop 1) rfl) ?_
   refine O.call0 (.p rfl) rfl F.ok44 rfl rfl ((r9put_c ha1_33 (by omega))) ?_
   rintro v36 _ ⟨a36, c36, rfl, rfl⟩
   try simp only [zx1, zx2, zx3]
   rw [hso]
   refine O.q 5 rfl <| O.nil <| S.region rfl <| O.q 1 rfl <| O.op (.p rfl) (.fieldAddr F.fld27x0 rfl) <| O.op (.p rfl) (.loadAt F.flat22 rfl hb1 rfl) ?_
   refine O.q 1 rfl <| O.ib (.p rfl) Tryz.underlying22 F.size49 rfl rfl rfl kr0 hg (h := fun p43 cs43 hp43 hrr43 => ?_)
   have hr43 := Rp.rel.mono hrr43 hg
   obtain ⟨la1_43, lc1_43, rfl, ho0_43, ha1_43⟩ := LeafRp.sh hr43
   refine O.op (.p rfl) (.fieldAddr F.fld49x0 rfl) <| O.op (.p rfl) (.loadAt F.flat9 rfl hp43 rfl) ?_
   refine O.opE (.p rfl) (.strBytesO Tryz.underlying9 Tryz.underlying31 Tryz.underlying5 rfl (by first | assumption | omega | (simp; done) | (simp; omega))) ?_
   rintro _ _ ⟨a46, c46, rfl, rfl⟩
   generalize h.1[i] = ft at hp hm hso hbl hfl hfl2 htk ⊢
   refine O.callB (.p rfl) rfl F.ok65 rfl rfl (bs := [OwnP Rp.u8 5 (.slice a46 ft.1.length c46) ft.1]) (by repeat (first | exact zsn | (apply zsc; focus (repeat (first | exact zh | apply zt))))) (fun m hm hd => refBytes_c (hm.arr.right hd) (by omega)) ?_
   rintro v47 _ ⟨a47, c47, rfl, rfl⟩
   try simp only [zx1, zx2, zx3]
   refine O.q 1 rfl <| O.callB (.p rfl) rfl F.ok65 rfl rfl (bs := [OwnP Rp.u8 5 (.slice a36 (sB ft.2.1).length c36) (sB ft.2.1)]) (by repeat (first | exact zsn | (apply zsc; focus (repeat (first | exact zh | apply zt))))) (fun m hm hd => refBytes_c (hm.arr.right hd) (by omega)) ?_
   rintro v49 _ ⟨a49, c49, rfl, rfl⟩
   try simp only [zx1, zx2, zx3]
   refine O.opE (.p rfl) (.litP (T := Rp.val) (ys := [_, _, _]) Tryz.underlying39 F.elem31 (by decide) rfl rfl ⟨⟨rfl, rfl⟩, ⟨rfl, rfl⟩, ⟨rfl, rfl⟩, trivial⟩ (by decide)) ?_
   rintro _ _ ⟨a50, c50, rfl, rfl⟩
   refine O.callB (.p rfl) rfl F.ok64 rfl rfl (bs := [OwnP Rp.val 31 (.slice a50 3 c50) [.slice q.1 so.length q.2, .slice a47 (bytesOf ft.1).length c47, .slice a49 (bytesOf (sB ft.2.1)).length c49], OwnP Rp.u8 5 (.slice q.1 so.length q.2) so, OwnP Rp.u8 5 (.slice a47 (bytesOf ft.1).length c47) (bytesOf ft.1), OwnP Rp.u8 5 (.slice a49 (bytesOf (sB ft.2.1)).length c49) (bytesOf (sB ft.2.1))]) (by repeat (first | exact zsn | (apply zsc; focus (repeat (first | exact zh | apply zt))))) (fun m hm hd => refJoin_c (xss := [so, bytesOf ft.1, bytesOf (sB ft.2.1)]) ((hm.arr.right hd).rows ⟨hm.tail.arr.right hd, hm.tail.tail.arr.right hd, hm.tail.tail.tail.arr.right hd, trivial⟩) (by rw [hfl]; omega)) ?_
   rintro v51 _ ⟨a51, c51, rfl, rfl⟩
   try simp only [zx1, zx2, zx3]
   rw [hfl]
   refine O.q 1 rfl <| O.nil <| S.inBlock <| S.region rfl <| O.q 1 rfl <| O.op (.p rfl) (.add rfl rfl (IntWalk.i64_in _ (by omega))) <| O.q 1 rfl <| O.nil ?_
   exact S.pw (ih (i + 1) ((a51, c51)) (by omega) (by omega))
  ·clear ih
   have hi : i = h.1.length := by omega
   subst hi
   rw [List.take_length]
   have hq0 := rowsB_le leafB 5000000 h.1 y0
   have hw0 : (z0 ++ rowsB leafB h.1).length ≤ 20000000000 := by rw [List.length_append]; omega
   generalize hu0 : z0 ++ rowsB leafB h.1 = u0 at hw0 ⊢
   refine S.exit rfl <| S.seq <| S.region rfl <| O.q 1 rfl <| O.op (.p rfl) (.fieldAddr F.fld27x1 rfl) <| O.op (.p rfl) (.loadAt F.flat23 rfl (hb1.drop 1) rfl) ?_
   refine O.op (.p rfl) (.len rfl Tryz.underlying23 rfl) <| O.call0 (.p rfl) rfl F.ok63 rfl rfl ((refNumber_c _)) ?_
   rintro v56 _ ⟨a56, c56, rfl, rfl⟩
   try simp only [zx1, zx2, zx3]
   refine O.frzA (by repeat (first | exact zh | apply zt)) fun g hs hm ha56 => ?_
   replace hg := Fr.sub_trans hg hs
   replace hR := melted hR hm
   try replace hr := hr.mono hs
   try replace k3 := k3.mono hs
   try replace hb1 := hb1.mono hs
   replace hm1 := meltTrans hm1 hm
   clear hs hm
   refine O.opE (.p rfl) (.appendP (T := Rp.u8) pure_u8 Tryz.underlying31 F.elem5 (by decide) rfl rfl (by repeat (first | exact zh | apply zt)) (by first | assumption | exact Arr.mono hg (by assumption) | exact Arr.left (by assumption) | exact Arr.left (Arr.mono hg (by assumption))) (by first | omega | (simp; done) | (simp; omega) | decide) (by first | omega | (simp; done) | (simp; omega) | decide)) ?_
   rintro _ _ ⟨a57, c57, rfl, rfl⟩
   refine O.q 1 rfl <| O.nil (S.seq (S.seq ?_))
   generalize hz1 : u0 ++ be h.2.1.length = z1
   have hzl1 : z1.length = u0.length + 8 := by rw [← hz1]; simp
   refine S.ownIs (T := Rp.u8) (e := 5) (v' := .slice a57 (z1 ++ rowsB (fun x => bytesOf (rootB x)) (h.2.1.take 0)).length c57) (xs' := (z1 ++ rowsB (fun x => bytesOf (rootB x)) (h.2.1.take 0))) (by repeat (first | exact zh | apply zt)) (by simp [rowsB, hzl1]) (by simp [rowsB, hzl1]) ?_
   refine S.slot 4 (v' := .slice a57 (z1 ++ rowsB (fun x => bytesOf (rootB x)) (h.2.1.take 0)).length c57) rfl (by simp [rowsB, hzl1]) ?_
   refine S.region rfl <| O.q 1 rfl <| O.nil <| S.block <| S.loopK2 (ι := Nat) (κ := Option Addr × Nat) (fun i q => i ≤ h.2.1.length) (fun i q => [(4, .slice q.1 (z1 ++ rowsB (fun x => bytesOf (rootB x)) (h.2.1.take i)).length q.2), (8, .int .i64 (i : Int))]) [(1, _)] (fun i q => [OwnP Rp.u8 5 (.slice q.1 (z1 ++ rowsB (fun x => bytesOf (rootB x)) (h.2.1.take i)).length q.2) (z1 ++ rowsB (fun x => bytesOf (rootB x)) (h.2.1.take i))]) (fun i q => h.2.1.length - i) (0) ((a57, c57)) (by simp) (.cons rfl (.cons rfl (.nil))) (.cons rfl (.nil)) rfl fun i q hx ih => ?_
   have hm2 := meltRefl (g := g)
   refine S.seq <| S.seq <| S.region rfl <| O.q 1 rfl <| O.op (.p rfl) (.fieldAddr F.fld27x1 rfl) <| O.op (.p rfl) (.loadAt F.flat23 rfl (hb1.drop 1) rfl) ?_
   refine O.op (.p rfl) (.len rfl Tryz.underlying23 rfl) <| O.op (.p rfl) (.lss rfl rfl) <| O.nil ?_
   first | refine S.condD rfl (fun h62 => ?_) (fun h62 => ?_) | refine S.condB rfl (fun h62 => ?_) (fun h62 => ?_)
   ·have hi : i < h.2.1.length := by omega
    have hle := rowsB_le (fun x => bytesOf (rootB x)) 161 (h.2.1.take i) fun x hx => y1 x (List.mem_of_mem_take hx)
    have hlt : (h.2.1.take i).length ≤ 3000 := by rw [List.length_take]; omega
    have htk : (z1 ++ rowsB (fun x => bytesOf (rootB x)) (h.2.1.take i)) ++ bytesOf (rootB h.2.1[i]) = (z1 ++ rowsB (fun x => bytesOf (rootB x)) (h.2.1.take (i + 1))) := by rw [rowsB_snoc _ _ _ hi, List.append_assoc]
    have hln : (z1 ++ rowsB (fun x => bytesOf (rootB x)) (h.2.1.take i)).length ≤ 21000000000 := by rw [List.length_append]; omega
    generalize (z1 ++ rowsB (fun x => bytesOf (rootB x)) (h.2.1.take i)) = so at htk hln ⊢
    have hp := p1 _ (List.getElem_mem hi)
    have hbl := rootB_length hp
    have hro : rootOut h.2.1[i] = rootB h.2.1[i] := by simp [rootOut, hp]
    refine S.skip <| S.seq <| S.block <| S.seq <| S.region rfl <| O.op (.p rfl) (.fieldAddr F.fld27x1 rfl) <| O.op (.p rfl) (.loadAt F.flat23 rfl (hb1.drop 1) rfl) ?_
    refine O.q 1 rfl <| O.ib (.p rfl) Tryz.underlying23 F.size52 rfl rfl rfl kr1 hg (h := fun p69 cs69 hp69 hrr69 => ?_)
    have hr69 := Rp.rel.mono hrr69 hg
    obtain ⟨ta3_69, ta4_69, tc3_69, tc4_69, rfl, ho0_69, ho1_69, ho2_69, ha3_69, ha4_69⟩ := RootRp.sh hr69
    refine O.op (.p rfl) (.loadAgg Tryz.isAgg52 (by kernel_rfl) rfl hp69) ?_
    refine O.call0 (.p rfl) rfl F.ok66 rfl rfl ((r15put_c hr69)) ?_
    rintro v71 _ ⟨a71, c71, rfl, rfl⟩
    try simp only [zx1, zx2, zx3]
    rw [hro]
    refine O.q 5 rfl <| O.nil <| S.region rfl <| O.q 2 rfl <| O.callB (.p rfl) rfl F.ok65 rfl rfl (bs := [OwnP Rp.u8 5 (.slice a71 (rootB h.2.1[i]).length c71) (rootB h.2.1[i])]) (by repeat (first | exact zsn | (apply zsc; focus (repeat (first | exact zh | apply zt))))) (fun m hm hd => refBytes_c (hm.arr.right hd) (by omega)) ?_
    rintro v76 _ ⟨a76, c76, rfl, rfl⟩
    try simp only [zx1, zx2, zx3]
    refine O.frzA (by repeat (first | exact zh | apply zt)) fun g hs hm ha76 => ?_
    replace hg := Fr.sub_trans hg hs
    replace hR := melted hR hm
    try replace hr := hr.mono hs
    try replace k3 := k3.mono hs
    try replace hb1 := hb1.mono hs
    try replace ha56 := ha56.mono hs
    try replace hp69 := hp69.mono hs
    try replace hr69 := hr69.mono hs
    try replace ha3_69 := ha3_69.mono hs
    try replace ha4_69 := ha4_69.mono hs
    replace hm1 := meltTrans hm1 hm
    replace hm2 := meltTrans hm2 hm
    clear hs hm
    refine O.opE (.p rfl) (.appendP (T := Rp.u8) pure_u8 Tryz.underlying31 F.elem5 (by decide) rfl rfl (by repeat (first | exact zh | apply zt)) (by first | assumption | exact Arr.mono hg (by assumption) | exact Arr.left (by assumption) | exact Arr.left (Arr.mono hg (by assumption))) (by first | omega | (simp; done) | (simp; omega) | decide) (by first | omega | (simp; done) | (simp; omega) | decide)) ?_
    rintro _ _ ⟨a77, c77, rfl, rfl⟩
    refine O.q 1 rfl <| O.nil <| S.inBlock <| S.region rfl <| O.q 1 rfl <| O.op (.p rfl) (.add rfl rfl (IntWalk.i64_in _ (by omega))) <| O.q 1 rfl <| O.nil ?_
    rw [htk]
    rw [← List.length_append, htk]
    exact S.melt hm2 (S.pw (ih (i + 1) ((a77, c77)) (by omega) (by omega)))
   ·clear ih
    have hi : i = h.2.1.length := by omega
    subst hi
    rw [List.take_length]
    have hq1 := rowsB_le (fun x => bytesOf (rootB x)) 161 h.2.1 y1
    have hw1 : (z1 ++ rowsB (fun x => bytesOf (rootB x)) h.2.1).length ≤ 21000000000 := by rw [List.length_append]; omega
    generalize hu1 : z1 ++ rowsB (fun x => bytesOf (rootB x)) h.2.1 = u1 at hw1 ⊢
    refine S.exit rfl <| S.seq <| S.region rfl <| O.q 1 rfl <| O.op (.p rfl) (.fieldAddr F.fld27x2 rfl) <| O.op (.p rfl) (.loadAt F.flat24 rfl (hb1.drop 2) rfl) ?_
    refine O.op (.p rfl) (.len rfl Tryz.underlying24 rfl) <| O.call0 (.p rfl) rfl F.ok63 rfl rfl ((refNumber_c _)) ?_
    rintro v82 _ ⟨a82, c82, rfl, rfl⟩
    try simp only [zx1, zx2, zx3]
    refine O.frzA (by repeat (first | exact zh | apply zt)) fun g hs hm ha82 => ?_
    replace hg := Fr.sub_trans hg hs
    replace hR := melted hR hm
    try replace hr := hr.mono hs
    try replace k3 := k3.mono hs
    try replace hb1 := hb1.mono hs
    try replace ha56 := ha56.mono hs
    replace hm1 := meltTrans hm1 hm
    replace hm2 := meltTrans hm2 hm
    clear hs hm
    refine O.opE (.p rfl) (.appendP (T := Rp.u8) pure_u8 Tryz.underlying31 F.elem5 (by decide) rfl rfl (by repeat (first | exact zh | apply zt)) (by first | assumption | exact Arr.mono hg (by assumption) | exact Arr.left (by assumption) | exact Arr.left (Arr.mono hg (by assumption))) (by first | omega | (simp; done) | (simp; omega) | decide) (by first | omega | (simp; done) | (simp; omega) | decide)) ?_
    rintro _ _ ⟨a83, c83, rfl, rfl⟩
    refine O.q 1 rfl <| O.nil (S.seq (S.seq ?_))
    generalize hz2 : u1 ++ be h.2.2.1.length = z2
    have hzl2 : z2.length = u1.length + 8 := by rw [← hz2]; simp
    refine S.ownIs (T := Rp.u8) (e := 5) (v' := .slice a83 (z2 ++ rowsB (fun x => bytesOf (evdB x)) (h.2.2.1.take 0)).length c83) (xs' := (z2 ++ rowsB (fun x => bytesOf (evdB x)) (h.2.2.1.take 0))) (by repeat (first | exact zh | apply zt)) (by simp [rowsB, hzl2]) (by simp [rowsB, hzl2]) ?_
    refine S.slot 4 (v' := .slice a83 (z2 ++ rowsB (fun x => bytesOf (evdB x)) (h.2.2.1.take 0)).length c83) rfl (by simp [rowsB, hzl2]) ?_
    refine S.region rfl <| O.q 1 rfl <| O.nil <| S.block <| S.loopK2 (ι := Nat) (κ := Option Addr × Nat) (fun i q => i ≤ h.2.2.1.length) (fun i q => [(4, .slice q.1 (z2 ++ rowsB (fun x => bytesOf (evdB x)) (h.2.2.1.take i)).length q.2), (11, .int .i64 (i : Int))]) [(1, _)] (fun i q => [OwnP Rp.u8 5 (.slice q.1 (z2 ++ rowsB (fun x => bytesOf (evdB x)) (h.2.2.1.take i)).length q.2) (z2 ++ rowsB (fun x => bytesOf (evdB x)) (h.2.2.1.take i))]) (fun i q => h.2.2.1.length - i) (0) ((a83, c83)) (by simp) (.cons rfl (.cons rfl (.nil))) (.cons rfl (.nil)) rfl fun i q hx ih => ?_
    have hm3 := meltRefl (g := g)
    refine S.seq <| S.seq <| S.region rfl <| O.q 1 rfl <| O.op (.p rfl) (.fieldAddr F.fld27x2 rfl) <| O.op (.p rfl) (.loadAt F.flat24 rfl (hb1.drop 2) rfl) ?_
    refine O.op (.p rfl) (.len rfl Tryz.underlying24 rfl) <| O.op (.p rfl) (.lss rfl rfl) <| O.nil ?_
    first | refine S.condD rfl (fun h88 => ?_) (fun h88 => ?_) | refine S.condB rfl (fun h88 => ?_) (fun h88 => ?_)
    ·have hi : i < h.2.2.1.length := by omega
     have hle := rowsB_le (fun x => bytesOf (evdB x)) 330 (h.2.2.1.take i) fun x hx => y2 x (List.mem_of_mem_take hx)
     have hlt : (h.2.2.1.take i).length ≤ 3000 := by rw [List.length_take]; omega
     have htk : (z2 ++ rowsB (fun x => bytesOf (evdB x)) (h.2.2.1.take i)) ++ bytesOf (evdB h.2.2.1[i]) = (z2 ++ rowsB (fun x => bytesOf (evdB x)) (h.2.2.1.take (i + 1))) := by rw [rowsB_snoc _ _ _ hi, List.append_assoc]
     have hln : (z2 ++ rowsB (fun x => bytesOf (evdB x)) (h.2.2.1.take i)).length ≤ 22000000000 := by rw [List.length_append]; omega
     generalize (z2 ++ rowsB (fun x => bytesOf (evdB x)) (h.2.2.1.take i)) = so at htk hln ⊢
     have hp := p2 _ (List.getElem_mem hi)
     have hbl := evdB_length hp
     have hro : evdOut h.2.2.1[i] = evdB h.2.2.1[i] := by simp [evdOut, hp]
     refine S.skip <| S.seq <| S.block <| S.seq <| S.region rfl <| O.op (.p rfl) (.fieldAddr F.fld27x2 rfl) <| O.op (.p rfl) (.loadAt F.flat24 rfl (hb1.drop 2) rfl) ?_
     refine O.q 1 rfl <| O.ib (.p rfl) Tryz.underlying24 F.size55 rfl rfl rfl kr2 hg (h := fun p95 cs95 hp95 hrr95 => ?_)
     have hr95 := Rp.rel.mono hrr95 hg
     obtain ⟨ea3_95, ea4_95, ea8_95, ea9_95, ec3_95, ec4_95, ec8_95, ec9_95, rfl, ho0_95, ho1_95, ho2_95, ha3_95, ha4_95, ho5_95, ho6_95, ho7_95, ha8_95, ha9_95⟩ := EvdRp.sh hr95
     refine O.op (.p rfl) (.loadAgg Tryz.isAgg55 (by kernel_rfl) rfl hp95) ?_
     refine O.call0 (.p rfl) rfl F.ok67 rfl rfl ((r16put_c hr95)) ?_
     rintro v97 _ ⟨a97, c97, rfl, rfl⟩
     try simp only [zx1, zx2, zx3]
     rw [hro]
     refine O.q 5 rfl <| O.nil <| S.region rfl <| O.q 2 rfl <| O.callB (.p rfl) rfl F.ok65 rfl rfl (bs := [OwnP Rp.u8 5 (.slice a97 (evdB h.2.2.1[i]).length c97) (evdB h.2.2.1[i])]) (by repeat (first | exact zsn | (apply zsc; focus (repeat (first | exact zh | apply zt))))) (fun m hm hd => refBytes_c (hm.arr.right hd) (by omega)) ?_
     rintro v102 _ ⟨a102, c102, rfl, rfl⟩
     try simp only [zx1, zx2, zx3]
     refine O.frzA (by repeat (first | exact zh | apply zt)) fun g hs hm ha102 => ?_
     replace hg := Fr.sub_trans hg hs
     replace hR := melted hR hm
     try replace hr := hr.mono hs
     try replace k3 := k3.mono hs
     try replace hb1 := hb1.mono hs
     try replace ha56 := ha56.mono hs
     try replace ha82 := ha82.mono hs
     try replace hp95 := hp95.mono hs
     try replace hr95 := hr95.mono hs
     try replace ha3_95 := ha3_95.mono hs
     try replace ha4_95 := ha4_95.mono hs
     try replace ha8_95 := ha8_95.mono hs
     try replace ha9_95 := ha9_95.mono hs
     replace hm1 := meltTrans hm1 hm
     replace hm2 := meltTrans hm2 hm
     replace hm3 := meltTrans hm3 hm
     clear hs hm
     refine O.opE (.p rfl) (.appendP (T := Rp.u8) pure_u8 Tryz.underlying31 F.elem5 (by decide) rfl rfl (by repeat (first | exact zh | apply zt)) (by first | assumption | exact Arr.mono hg (by assumption) | exact Arr.left (by assumption) | exact Arr.left (Arr.mono hg (by assumption))) (by first | omega | (simp; done) | (simp; omega) | decide) (by first | omega | (simp; done) | (simp; omega) | decide)) ?_
     rintro _ _ ⟨a103, c103, rfl, rfl⟩
     refine O.q 1 rfl <| O.nil <| S.inBlock <| S.region rfl <| O.q 1 rfl <| O.op (.p rfl) (.add rfl rfl (IntWalk.i64_in _ (by omega))) <| O.q 1 rfl <| O.nil ?_
     rw [htk]
     rw [← List.length_append, htk]
     exact S.melt hm3 (S.pw (ih (i + 1) ((a103, c103)) (by omega) (by omega)))
    ·clear ih
     have hi : i = h.2.2.1.length := by omega
     subst hi
     rw [List.take_length]
     have hq2 := rowsB_le (fun x => bytesOf (evdB x)) 330 h.2.2.1 y2
     have hw2 : (z2 ++ rowsB (fun x => bytesOf (evdB x)) h.2.2.1).length ≤ 22000000000 := by rw [List.length_append]; omega
     generalize hu2 : z2 ++ rowsB (fun x => bytesOf (evdB x)) h.2.2.1 = u2 at hw2 ⊢
     refine S.exit rfl <| S.seq <| S.region rfl <| O.q 1 rfl <| O.op (.p rfl) (.fieldAddr F.fld27x3 rfl) <| O.op (.p rfl) (.loadAt F.flat25 rfl (hb1.drop 3) rfl) ?_
     refine O.op (.p rfl) (.len rfl Tryz.underlying25 rfl) <| O.call0 (.p rfl) rfl F.ok63 rfl rfl ((refNumber_c _)) ?_
     rintro v108 _ ⟨a108, c108, rfl, rfl⟩
     try simp only [zx1, zx2, zx3]
     refine O.frzA (by repeat (first | exact zh | apply zt)) fun g hs hm ha108 => ?_
     replace hg := Fr.sub_trans hg hs
     replace hR := melted hR hm
     try replace hr := hr.mono hs
     try replace k3 := k3.mono hs
     try replace hb1 := hb1.mono hs
     try replace ha56 := ha56.mono hs
     try replace ha82 := ha82.mono hs
     replace hm1 := meltTrans hm1 hm
     replace hm2 := meltTrans hm2 hm
     replace hm3 := meltTrans hm3 hm
     clear hs hm
     refine O.opE (.p rfl) (.appendP (T := Rp.u8) pure_u8 Tryz.underlying31 F.elem5 (by decide) rfl rfl (by repeat (first | exact zh | apply zt)) (by first | assumption | exact Arr.mono hg (by assumption) | exact Arr.left (by assumption) | exact Arr.left (Arr.mono hg (by assumption))) (by first | omega | (simp; done) | (simp; omega) | decide) (by first | omega | (simp; done) | (simp; omega) | decide)) ?_
     rintro _ _ ⟨a109, c109, rfl, rfl⟩
     refine O.q 1 rfl <| O.nil (S.seq (S.seq ?_))
     generalize hz3 : u2 ++ be h.2.2.2.1.length = z3
     have hzl3 : z3.length = u2.length + 8 := by rw [← hz3]; simp
     have y3 : ∀ x ∈ h.2.2.2.1, (be x).length ≤ 8 := fun x _ => by simp
     refine S.ownIs (T := Rp.u8) (e := 5) (v' := .slice a109 (z3 ++ rowsB be (h.2.2.2.1.take 0)).length c109) (xs' := (z3 ++ rowsB be (h.2.2.2.1.take 0))) (by repeat (first | exact zh | apply zt)) (by simp [rowsB, hzl3]) (by simp [rowsB, hzl3]) ?_
     refine S.slot 4 (v' := .slice a109 (z3 ++ rowsB be (h.2.2.2.1.take 0)).length c109) rfl (by simp [rowsB, hzl3]) ?_
     refine S.region rfl <| O.q 1 rfl <| O.nil <| S.block <| S.loopK2 (ι := Nat) (κ := Option Addr × Nat) (fun i q => i ≤ h.2.2.2.1.length) (fun i q => [(4, .slice q.1 (z3 ++ rowsB be (h.2.2.2.1.take i)).length q.2), (14, .int .i64 (i : Int))]) [(1, _)] (fun i q => [OwnP Rp.u8 5 (.slice q.1 (z3 ++ rowsB be (h.2.2.2.1.take i)).length q.2) (z3 ++ rowsB be (h.2.2.2.1.take i))]) (fun i q => h.2.2.2.1.length - i) (0) ((a109, c109)) (by simp) (.cons rfl (.cons rfl (.nil))) (.cons rfl (.nil)) rfl fun i q hx ih => ?_
     have hm4 := meltRefl (g := g)
     refine S.seq <| S.seq <| S.region rfl <| O.q 1 rfl <| O.op (.p rfl) (.fieldAddr F.fld27x3 rfl) <| O.op (.p rfl) (.loadAt F.flat25 rfl (hb1.drop 3) rfl) ?_
     refine O.op (.p rfl) (.len rfl Tryz.underlying25 rfl) <| O.op (.p rfl) (.lss rfl rfl) <| O.nil ?_
     first | refine S.condD rfl (fun h114 => ?_) (fun h114 => ?_) | refine S.condB rfl (fun h114 => ?_) (fun h114 => ?_)
     ·have hi : i < h.2.2.2.1.length := by omega
      have hle := rowsB_le be 8 (h.2.2.2.1.take i) fun x hx => y3 x (List.mem_of_mem_take hx)
      have hlt : (h.2.2.2.1.take i).length ≤ 3000 := by rw [List.length_take]; omega
      have htk : (z3 ++ rowsB be (h.2.2.2.1.take i)) ++ be h.2.2.2.1[i] = (z3 ++ rowsB be (h.2.2.2.1.take (i + 1))) := by rw [rowsB_snoc _ _ _ hi, List.append_assoc]
      have hln : (z3 ++ rowsB be (h.2.2.2.1.take i)).length ≤ 23000000000 := by rw [List.length_append]; omega
      generalize (z3 ++ rowsB be (h.2.2.2.1.take i)) = so at htk hln ⊢
      refine S.skip <| S.seq <| S.block <| S.region rfl <| O.q 1 rfl <| O.op (.p rfl) (.fieldAddr F.fld27x3 rfl) <| O.op (.p rfl) (.loadAt F.flat25 rfl (hb1.drop 3) rfl) ?_
      refine O.q 1 rfl <| O.ia (.p rfl) Tryz.underlying25 F.size3 rfl rfl rfl (k3) (h := fun p121 cs121 hp121 hr121 => ?_)
      obtain ⟨rfl, _⟩ := hr121
      refine O.op (.p rfl) (.loadAt F.flat3 rfl hp121 rfl) ?_
      refine O.call0 (.p rfl) rfl F.ok63 rfl rfl ((refNumber_c _)) ?_
      rintro v123 _ ⟨a123, c123, rfl, rfl⟩
      try simp only [zx1, zx2, zx3]
      refine O.frzA (by repeat (first | exact zh | apply zt)) fun g hs hm ha123 => ?_
      replace hg := Fr.sub_trans hg hs
      replace hR := melted hR hm
      try replace hr := hr.mono hs
      try replace k3 := k3.mono hs
      try replace hb1 := hb1.mono hs
      try replace ha56 := ha56.mono hs
      try replace ha82 := ha82.mono hs
      try replace ha108 := ha108.mono hs
      try replace hp121 := hp121.mono hs
      replace hm1 := meltTrans hm1 hm
      replace hm2 := meltTrans hm2 hm
      replace hm3 := meltTrans hm3 hm
      replace hm4 := meltTrans hm4 hm
      clear hs hm
      refine O.opE (.p rfl) (.appendP (T := Rp.u8) pure_u8 Tryz.underlying31 F.elem5 (by decide) rfl rfl (by repeat (first | exact zh | apply zt)) (by first | assumption | exact Arr.mono hg (by assumption) | exact Arr.left (by assumption) | exact Arr.left (Arr.mono hg (by assumption))) (by first | omega | (simp; done) | (simp; omega) | decide) (by first | omega | (simp; done) | (simp; omega) | decide)) ?_
      rintro _ _ ⟨a124, c124, rfl, rfl⟩
      refine O.q 1 rfl <| O.nil <| S.inBlock <| S.region rfl <| O.q 1 rfl <| O.op (.p rfl) (.add rfl rfl (IntWalk.i64_in _ (by omega))) <| O.q 1 rfl <| O.nil ?_
      rw [htk]
      rw [← List.length_append, htk]
      exact S.melt hm4 (S.pw (ih (i + 1) ((a124, c124)) (by omega) (by omega)))
     ·clear ih
      have hi : i = h.2.2.2.1.length := by omega
      subst hi
      rw [List.take_length]
      have hfin : z3 ++ rowsB be h.2.2.2.1 = heldB h := by rw [← hz3, ← hu2, ← hz2, ← hu1, ← hz1, ← hu0, ← hz0]; rfl
      rw [hfin]
      refine S.exit rfl <| S.seq <| S.region rfl <| O.q 3 rfl <| O.nil <| S.ret2 Tryz.results18 rfl rfl fun w hw => Holds.end_ hR hw ?_
      exact pk ⟨q.1, q.2, rfl, rfl⟩
end Go.Proofs.YtodhbhanmdfdeaaGreat
end
section
/- Texts of this proof. -/
open Go Go.Sp
set_option maxRecDepth 100000
attribute [local irreducible] obj Own OwnP
namespace Go.Proofs.YtodhbhanmdfdeaaGreat
theorem mark_c {r : Fr} (k i : Int) (hk : Mk k) (hi : Mk i) : Con Tryz.prog 143 #[.int .i64 k, .int .i64 i] r [] (Ret fun v η => v = .int .i64 (markZ k i) ∧ η = []) := by
 refine Con.of (n := 10) _ rfl Tryz.func143 rfl rfl rfl fun g hg R hR => ?_
 obtain ⟨hk1, hk2⟩ := hk
 obtain ⟨hi1, hi2⟩ := hi
 refine S.seq <| S.region rfl <| O.q 1 rfl <| O.nil <| S.seq <| S.region rfl <| O.q 1 rfl <| O.op (.p rfl) (.add rfl rfl (IntWalk.i64_in _ (by omega))) <| O.op (.p rfl) (.mul rfl rfl (IntWalk.i64_in _ (by omega))) <| O.q 1 rfl <| O.op (.p rfl) (.add rfl rfl (IntWalk.i64_in _ (by omega))) <| O.q 1 rfl <| O.nil <| S.ret Tryz.results143 rfl fun w hw => hR _ _ w ?_ hw
 exact ⟨rfl, rfl⟩
theorem markByte_c {r : Fr} (k i : Int) (hk : Mk k) (hi : Mk i) : Con Tryz.prog 78 #[.int .i64 k, .int .i64 i] r [] (Ret fun v η => v = byteV (markB k i) ∧ η = []) := by
 refine Con.of (n := 12) _ rfl Tryz.func78 rfl rfl rfl fun g hg R hR => ?_
 refine S.seq <| S.region rfl <| O.q 1 rfl <| O.nil <| S.seq <| S.region rfl <| O.q 2 rfl <| O.call0 (.p rfl) rfl F.ok143 rfl rfl ((mark_c _ _ hk hi)) ?_
 rintro v7 _ ⟨rfl, rfl⟩
 try simp only [zx1, zx2, zx3]
 refine O.op (.p rfl) (.cvt Tryz.underlying3 Tryz.underlying195 rfl) <| O.op (.p rfl) (.mulW rfl rfl) <| O.op (.p rfl) (.shr rfl rfl (by omega)) <| O.op (.p rfl) (.cvt Tryz.underlying195 Tryz.underlying5 rfl) <| O.q 1 rfl <| O.nil <| S.ret Tryz.results78 rfl fun w hw => hR _ _ w ?_ hw
 exact ⟨wrapB _, rfl⟩
theorem markText_c {r : Fr} (k i : Int) : Con Tryz.prog 235 #[.int .i64 k, .int .i64 i] r [] (Ret fun v η => v = .string (str (markT k i)) ∧ η = []) := by
 refine Con.of (n := 23) _ rfl Tryz.func235 rfl rfl rfl fun g hg R hR => ?_
 refine S.seq <| S.region rfl <| O.q 1 rfl <| O.nil <| S.seq <| S.region rfl <| O.q 1 rfl <| O.op (.p rfl) (.cvt Tryz.underlying3 Tryz.underlying5 rfl) <| O.q 1 rfl <| O.op (.p rfl) (.shr rfl rfl (by omega)) <| O.op (.p rfl) (.cvt Tryz.underlying3 Tryz.underlying5 rfl) <| O.q 1 rfl <| O.op (.p rfl) (.shr rfl rfl (by omega)) <| O.op (.p rfl) (.cvt Tryz.underlying3 Tryz.underlying5 rfl) <| O.q 1 rfl ?_
 refine O.op (.p rfl) (.cvt Tryz.underlying3 Tryz.underlying5 rfl) <| O.q 1 rfl <| O.op (.p rfl) (.shr rfl rfl (by omega)) <| O.op (.p rfl) (.cvt Tryz.underlying3 Tryz.underlying5 rfl) <| O.q 1 rfl <| O.op (.p rfl) (.shr rfl rfl (by omega)) <| O.op (.p rfl) (.cvt Tryz.underlying3 Tryz.underlying5 rfl) <| O.opE (.p rfl) (.litP (T := Rp.u8) (ys := markT k i) Tryz.underlying31 F.elem5 (by decide) rfl rfl ⟨rfl, congrArg (fun v => [v]) (wrapB _), congrArg (fun v => [v]) (wrapB _), congrArg (fun v => [v]) (wrapB _), rfl, congrArg (fun v => [v]) (wrapB _), congrArg (fun v => [v]) (wrapB _), congrArg (fun v => [v]) (wrapB _), trivial⟩ (by decide)) ?_
 rintro v21 _ ⟨a21, c21, rfl, rfl⟩
 refine O.frzA (by repeat (first | exact zh | apply zt)) fun g hs hm ha21 => ?_
 replace hg := Fr.sub_trans hg hs
 replace hR := melted hR hm
 clear hs hm
 refine O.op (.p rfl) (.toStr Tryz.underlying31 Tryz.underlying5 Tryz.underlying9 rfl (by first | assumption | exact Arr.mono hg (by assumption) | exact Arr.left (by assumption) | exact Arr.left (Arr.mono hg (by assumption)))) ?_
 refine O.q 1 rfl <| O.nil ?_
 exact S.rt Tryz.results235 rfl hR ⟨rfl, rfl⟩
theorem LentBytes_c {r : Fr} {va : Value} {xs : List UInt8} (ha : Arr Rp.u8 r va xs) (hl : xs.length ≤ 100000000000000) :
  Con Tryz.prog 24 #[va] r [] (Ret fun v η => ∃ a c, v = .slice a xs.length c ∧ η = [LentP 5 v xs]) := by
 refine Con.of (n := 25) _ rfl Tryz.func24 rfl rfl rfl fun g hg R hR => ?_
 have ha := ha.mono hg
 obtain ⟨a1, c1, rfl⟩ := ha.shape
 refine S.seq <| S.region rfl <| O.q 1 rfl <| O.nil <| S.seq <| S.region rfl <| O.q 1 rfl <| O.op (.p rfl) (.len rfl Tryz.underlying31 rfl) <| O.op (.p rfl) (.add rfl rfl (IntWalk.i64_in _ (by omega))) <| O.opE (.p rfl) (.makeP0 (T := Rp.u8) (c := xs.length + 12) Tryz.underlying31 F.elem5 rfl rfl rfl rfl (by omega) (by omega)) ?_
 rintro v8 _ ⟨a8, c8, rfl, rfl⟩
 refine O.q 1 rfl <| O.nil <| S.seq <| S.region rfl <| O.q 2 rfl <| O.opE (.p rfl) (.appendP (T := Rp.u8) pure_u8 Tryz.underlying31 F.elem5 (by decide) rfl rfl (by repeat (first | exact zh | apply zt)) (by first | assumption | exact Arr.mono hg (by assumption) | exact Arr.left (by assumption) | exact Arr.left (Arr.mono hg (by assumption))) (by first | omega | (simp; done) | (simp; omega) | decide) (by first | omega | (simp; done) | (simp; omega) | decide)) ?_
 rintro _ _ ⟨a11, c11, rfl, rfl⟩
 refine O.q 1 rfl <| O.nil <| S.seq <| S.seq <| S.region rfl <| O.q 1 rfl <| O.nil (S.block ?_)
 simp only [List.length_nil, Nat.zero_add, List.nil_append]
 refine S.conv (C := OwnP Rp.u8 5 (.slice a11 (xs.length + 0) c11) (xs ++ marks1 0)) Sel.here (fun m x => ⟨m, Fr.sub_refl _, by simpa [marks1, mks] using x⟩) ?_
 refine S.loopK3 (ι := Nat) (κ := Option Addr) (υ := Nat) (fun i a c => i ≤ 12) (fun i a c => [(4, .int .i64 (i : Int)), (3, .slice a (xs.length + i) c)]) [(0, _)] (fun i a c => [OwnP Rp.u8 5 (.slice a (xs.length + i) c) (xs ++ marks1 i)]) (fun i a c => 12 - i) (0) (a11) (c11) (by simp) (.cons rfl (.cons rfl (.nil))) (.cons rfl (.nil)) rfl fun i a c hx ih => ?_
 have hm1 := meltRefl (g := g)
 refine S.seq <| S.seq <| S.region rfl <| O.q 1 rfl <| O.op (.p rfl) (.lss rfl rfl) <| O.nil ?_
 first | refine S.condD rfl (fun h13 => ?_) (fun h13 => ?_) | refine S.condB rfl (fun h13 => ?_) (fun h13 => ?_)
 ·refine S.skip <| S.seq <| S.block <| S.region rfl <| O.q 2 rfl <| O.call0 (.p rfl) rfl F.ok78 rfl rfl (markByte_c _ _ (by constructor <;> omega) (by constructor <;> omega)) ?_
  rintro v18 _ ⟨rfl, rfl⟩
  try simp only [zx1, zx2, zx3]
  refine O.opE (.p rfl) (.litP (T := Rp.u8) (ys := [_]) Tryz.underlying31 F.elem5 (by decide) rfl rfl ⟨rfl, trivial⟩ (by decide)) ?_
  rintro _ _ ⟨a19, c19, rfl, rfl⟩
  refine O.opE (.p rfl) (.appendO (T := Rp.u8) Tryz.underlying31 F.elem5 (by decide) rfl rfl (by repeat (first | exact zh | apply zt)) (by repeat (first | exact zh | apply zt)) (by first | omega | (simp; done) | (simp; omega) | decide) (by first | omega | (simp; done) | (simp; omega) | decide)) ?_
  rintro _ _ ⟨a20, c20, rfl, rfl⟩
  refine O.q 1 rfl <| O.nil <| S.inBlock <| S.region rfl <| O.q 1 rfl <| O.op (.p rfl) (.add rfl rfl (IntWalk.i64_in _ (by omega))) <| O.q 1 rfl <| O.nil ?_
  simp only [List.length_append, marks1_length]
  rw [List.append_assoc, marks1_succ]
  exact S.wk (ih (i + 1) (a20) (c20) (by omega) (by omega))
 ·have hi : i = 12 := by omega
  subst hi
  refine S.factS Sel.here (fun _ x => OwnP.room x) fun hroom => ?_
  refine S.exit rfl <| S.seq <| S.region rfl <| O.q 2 rfl <| O.op (.p rfl) (.len rfl Tryz.underlying31 rfl) <| O.slice0 (q := xs.length) Rp.u8 (.p rfl) Tryz.underlying31 F.size5 rfl rfl rfl (by omega) ?_
  refine O.q 1 rfl <| O.nil <| S.conv (C := LentP 5 (.slice a xs.length c) xs) Sel.here (fun m x => ⟨m, Fr.sub_refl _, a, c, hroom.2, rfl, x⟩) ?_
  refine S.ret Tryz.results24 rfl fun w hw => hR _ _ w ?_ hw
  exact ⟨a, c, rfl, rfl⟩
theorem kept_step {α : Type} {zs ys : List α} {i : Nat} (hl : zs.length = ys.length) (hx : ∀ (j : Nat) (hj : j < zs.length), j < i → zs[j] = ys[j]) (he : ∀ (hi : i < zs.length), zs[i] = ys[i]) : ∀ (j : Nat) (hj : j < zs.length), j < i + 1 → zs[j] = ys[j] := by
 intro j hj h
 by_cases hji : j < i
 ·exact hx j hj hji
 ·have : j = i := by omega
  subst this; exact he hj
theorem kept_get (xs zs : List UInt8) (hz : zs.length = xs.length + 12) (h : ∀ (i : Nat) (hi : i < zs.length), zs[i] = (xs ++ marks1 12)[i]'(by simp; omega)) : zs = xs ++ marks1 12 :=
 List.ext_getElem (by simp; omega) fun i h1 h2 => h i h1
theorem KeptBytes_c {r : Fr} {a : Option Addr} {c : Nat} {vl : Value} {xs zs : List UInt8} (hz : Arr Rp.u8 r (.slice a (xs.length + 12) c) zs) (hl : Arr Rp.u8 r vl xs) (hb : xs.length ≤ 100000000000000) :
  Con Tryz.prog 27 #[.slice a xs.length c, vl] r [] (Ret fun v η => v = .bool (decide (zs = xs ++ marks1 12)) ∧ η = []) := by
 refine Con.of (n := 58) _ rfl Tryz.func27 rfl rfl rfl fun g hg R hR => ?_
 have hz := hz.mono hg
 have hl := hl.mono hg
 obtain ⟨hzl, hzc⟩ := hz.room
 rw [hzl] at hz hzc
 obtain ⟨a1, c1, rfl⟩ := hl.shape
 refine S.seq <| S.region rfl <| O.q 1 rfl <| O.nil <| S.seq <| S.seq <| S.region rfl <| O.q 1 rfl <| O.op (.p rfl) (.len rfl Tryz.underlying31 rfl) <| O.q 1 rfl <| O.op (.p rfl) (.len rfl Tryz.underlying31 rfl) <| O.op (.p rfl) (.neq rfl rfl) <| O.nil ?_
 first | refine S.condD rfl (fun h11 => ?_) (fun h11 => ?_) | refine S.condB rfl (fun h11 => ?_) (fun h11 => ?_)
 ·exact absurd rfl (by assumption)
 ·refine S.skip <| S.seq <| S.region rfl <| O.q 2 rfl <| O.op (.p rfl) (.len rfl Tryz.underlying31 rfl) <| O.op (.p rfl) (.add rfl rfl (IntWalk.i64_in _ (by omega))) <| O.slice0 (q := zs.length) Rp.u8 (.p rfl) Tryz.underlying31 F.size5 rfl rfl (by omega) (by omega) ?_
  refine O.q 1 rfl <| O.nil <| S.seq <| S.seq <| S.region rfl <| O.q 1 rfl <| O.nil <| S.block <| S.loopK (ι := Nat) (fun i => i ≤ zs.length ∧ ∀ (j : Nat) (hj : j < zs.length), j < i → zs[j] = (xs ++ marks1 12)[j]'(by simp; omega)) (fun i => [(6, .int .i64 (i : Int))]) [(1, _), (5, _)] (fun i => []) (fun i => zs.length - i) (0) (by exact ⟨by simp, fun j hj h => absurd h (by omega)⟩) (.cons rfl (.nil)) (.cons rfl (.cons rfl (.nil))) rfl fun i hx ih => ?_
  have hm1 := meltRefl (g := g)
  obtain ⟨hx1, hx⟩ := hx
  refine S.seq <| S.seq <| S.region rfl <| O.q 2 rfl <| O.op (.p rfl) (.len rfl Tryz.underlying31 rfl) <| O.op (.p rfl) (.lss rfl rfl) <| O.nil ?_
  first | refine S.condD rfl (fun h20 => ?_) (fun h20 => ?_) | refine S.condB rfl (fun h20 => ?_) (fun h20 => ?_)
  ·have hi : i < zs.length := by omega
   refine S.skip <| S.seq <| S.block <| S.seq <| S.regionD (L := [0, 1, 2, 3, 4, 5, 6, 7, 8, 9, 10, 11, 12, 13, 14, 15, 16, 17, 18, 19, 20, 21, 22, 23, 24, 25, 26, 27, 28, 29, 30, 31, 32, 33, 34]) F.mixed (by kernel_rfl) <| OD.q 2 rfl <| .quiet (.p rfl) rfl (fun _ => .len rfl Tryz.underlying31 rfl) <| .quiet (.p rfl) rfl (fun _ => .lss rfl rfl) <| OD.q 1 rfl ?_
   first | refine OD.caseD 27 rfl (fun h27 => ?_) (fun h27 => ?_) | refine OD.caseB 27 rfl (fun h27 => ?_) (fun h27 => ?_)
   ·have hi2 : i < xs.length := by omega
    have hget : (xs ++ marks1 12)[i]'(by simp; omega) = xs[i] := List.getElem_append_left hi2
    refine OD.q 2 rfl <| OD.ia (.g rfl rfl) Tryz.underlying31 F.size5 rfl rfl rfl (by first | assumption | exact Arr.mono hg (by assumption) | exact Arr.left (by assumption) | exact Arr.left (Arr.mono hg (by assumption))) (h := fun p30 cs30 hp30 hr30 => ?_)
    cases hr30
    refine .quiet (.g rfl rfl) rfl (fun _ => .loadAt F.flat5 rfl hp30 rfl) ?_
    refine OD.q 2 rfl <| OD.ia (.g rfl rfl) Tryz.underlying31 F.size5 rfl rfl rfl (by first | assumption | exact Arr.mono hg (by assumption) | exact Arr.left (by assumption) | exact Arr.left (Arr.mono hg (by assumption))) (h := fun p34 cs34 hp34 hr34 => ?_)
    cases hr34
    refine .quiet (.g rfl rfl) rfl (fun _ => .loadAt F.flat5 rfl hp34 rfl) ?_
    refine .quiet (.g rfl rfl) rfl (fun _ => .eql rfl rfl) <| .quiet (.g rfl rfl) rfl (fun _ => (by first | exact .notD rfl | exact .not rfl)) ?_
    refine OD.q 2 rfl ?_
    first | refine OD.caseD 39 rfl (fun h39 => ?_) (fun h39 => ?_) | refine OD.caseB 39 rfl (fun h39 => ?_) (fun h39 => ?_)
    ·refine OD.q 18 rfl <| ODx.nil <| S.condT rfl <| S.seq <| S.region rfl <| O.q 1 rfl <| O.nil <| S.ret Tryz.results27 rfl fun w hw => hR _ _ w ?_ hw
     refine ⟨?_, rfl⟩
     have hne : ¬ zs = xs ++ marks1 12 := by
      intro e
      have h1 : zs[i] = xs[i] := by rw [← hget]; exact getElem_congr_coll e
      have := u8_toNat h1
      omega
     simp [hne]
    ·refine OD.q 2 rfl <| .quiet (.g rfl rfl) rfl (fun _ => .len rfl Tryz.underlying31 rfl) <| .quiet (.g rfl rfl) rfl (fun _ => .geq rfl rfl) <| OD.sF 43 rfl (by simp; omega) ?_
     refine OD.q 14 rfl <| ODx.nil <| S.condF rfl <| S.skip <| S.inBlock <| S.region rfl <| O.q 1 rfl <| O.op (.p rfl) (.add rfl rfl (IntWalk.i64_in _ (by omega))) <| O.q 1 rfl <| O.nil ?_
     exact S.wk (ih (i + 1) (by exact ⟨by omega, kept_step (by simp; omega) hx fun _ => by rw [hget]; exact u8_inj (by omega)⟩) (by omega))
   ·have hi2 : xs.length ≤ i := by omega
    have hget : (xs ++ marks1 12)[i]'(by simp; omega) = markB 1 ((i : Int) - (xs.length : Int)) := by
     rw [List.getElem_append_right hi2]; simp [marks1, mks]; congr 1; omega
    refine OD.q 14 rfl <| .quiet (.g rfl rfl) rfl (fun _ => .len rfl Tryz.underlying31 rfl) <| .quiet (.g rfl rfl) rfl (fun _ => .geq rfl rfl) <| OD.sT 43 rfl (by simp; omega) ?_
    refine OD.q 3 rfl <| OD.ia (.g rfl rfl) Tryz.underlying31 F.size5 rfl rfl rfl (by first | assumption | exact Arr.mono hg (by assumption) | exact Arr.left (by assumption) | exact Arr.left (Arr.mono hg (by assumption))) (h := fun p47 cs47 hp47 hr47 => ?_)
    cases hr47
    refine .quiet (.g rfl rfl) rfl (fun _ => .loadAt F.flat5 rfl hp47 rfl) ?_
    refine OD.q 2 rfl <| .quiet (.g rfl rfl) rfl (fun _ => .len rfl Tryz.underlying31 rfl) <| .quiet (.g rfl rfl) rfl (fun _ => .sub rfl rfl (IntWalk.i64_in _ (by omega))) <| OD.call0 (.g rfl rfl) (by kernel_rfl) rfl F.ok78 rfl rfl (markByte_c _ _ (by constructor <;> omega) (by constructor <;> omega)) ?_
    rintro v53 _ ⟨rfl, rfl⟩
    try simp only [zx1, zx2, zx3]
    refine .quiet (.g rfl rfl) rfl (fun _ => .eql rfl rfl) <| .quiet (.g rfl rfl) rfl (fun _ => (by first | exact .notD rfl | exact .not rfl)) ?_
    refine OD.q 2 rfl <| ODx.nil ?_
    first | refine S.condD rfl (fun h57 => ?_) (fun h57 => ?_) | refine S.condB rfl (fun h57 => ?_) (fun h57 => ?_)
    ·refine S.seq <| S.region rfl <| O.q 1 rfl <| O.nil <| S.ret Tryz.results27 rfl fun w hw => hR _ _ w ?_ hw
     refine ⟨?_, rfl⟩
     have hne : ¬ zs = xs ++ marks1 12 := by
      intro e
      have h1 : zs[i] = markB 1 ((i : Int) - (xs.length : Int)) := by rw [← hget]; exact getElem_congr_coll e
      have := u8_toNat h1
      omega
     simp [hne]
    ·refine S.skip <| S.inBlock <| S.region rfl <| O.q 1 rfl <| O.op (.p rfl) (.add rfl rfl (IntWalk.i64_in _ (by omega))) <| O.q 1 rfl <| O.nil ?_
     exact S.wk (ih (i + 1) (by exact ⟨by omega, kept_step (by simp; omega) hx fun _ => by rw [hget]; exact u8_inj (by omega)⟩) (by omega))
  ·have hi : i = zs.length := by omega
   refine S.exit rfl <| S.seq <| S.region rfl <| O.q 1 rfl <| O.nil <| S.ret Tryz.results27 rfl fun w hw => hR _ _ w ?_ hw
   exact ⟨by rw [kept_get xs zs hzl.symm (fun j hj => hx j hj (by omega))]; simp, rfl⟩
def marks2 (n : Nat) : List UInt8 := (List.range n).map fun (i : Nat) => markB 2 (i : Int)
@[simp] theorem marks2_length (n : Nat) : (marks2 n).length = n := by simp [marks2]
def rowMarks (n : Nat) : List (List UInt8) := (List.range n).map fun (i : Nat) => markT 1 (i : Int)
@[simp] theorem rowMarks_length (n : Nat) : (rowMarks n).length = n := by simp [rowMarks]
end Go.Proofs.YtodhbhanmdfdeaaGreat
end
