/- Texts of this proof. -/
import Derived.Test.YtodhbhanmdfdeaaGreatQRef7
open Go Go.Sp Go.Proofs.Tryz
set_option maxRecDepth 100000
set_option maxHeartbeats 1000000
attribute [local irreducible] obj Own OwnP
namespace Go.Proofs.YtodhbhanmdfdeaaGreat
theorem r8shape_c {r:Fr} {cs:List Value} {x:RecT} (h:RecRp.rel r cs x):Con prog 215 #[.agg cs.toArray] r [] (Ret fun v η=>v=.bool (shaped x)∧η=[]):=by
 obtain ⟨xa3,xa5,xa6,xc3,xc5,xc6,rfl,k0,k1,k2,k3,k5,k6⟩:=RecRp.sh h;have hz0:=str_size x.1;refine Con.o func215 fun g hg R hR=>?_;have h:=h.mono hg;have k3:=k3.mono hg;have k5:=k5.mono hg;have k6:=k6.mono hg;refine S.seq<|S.region rfl<|O.opE (.p rfl) (.box (cs:=[_,_,_,_,_,_,_]) rfl rfl) ?_;rintro _ _ ⟨b1,rfl,rfl⟩;refine zz 3 ?_;refine S.frzO zB fun g hs hm hb1=>?_;replace hg:=Fr.sub_trans hg hs;replace hR:=melted hR hm
 try replace h:=h.mono hs
 try replace k3:=k3.mono hs
 try replace k5:=k5.mono hs
 try replace k6:=k6.mono hs
 clear hs hm
 by_cases n0:¬ (1≤x.1.length)
 ·
  refine zz 1 ?_;refine O.op (.p rfl) (.fieldAddr fld74x1 rfl) ?_;refine zz 1 ?_;refine O.op (.p rfl) (.fieldAddr fld74x2 rfl) ?_;refine zz 1 ?_;refine O.op (.p rfl) (.build (cs:=[_,_]) underlying166 rfl rfl rfl rfl rfl)<|O.opE (.p rfl) (.alloc (cs:=[.int .i64 0,.int .i64 0]) zeroValue166 rfl) ?_;rintro _ _ ⟨b3,rfl,rfl⟩;refine zz 1 ?_;refine O.nil<|S.seq<|S.seq<|S.frzO zB fun g hs hm hb3=>?_;replace hg:=Fr.sub_trans hg hs;replace hR:=melted hR hm
  try replace h:=h.mono hs
  try replace k3:=k3.mono hs
  try replace k5:=k5.mono hs
  try replace k6:=k6.mono hs
  try replace hb1:=hb1.mono hs
  clear hs hm;refine zz 1 ?_;refine O.op (.p rfl) (.fieldAddr fld74x0 rfl) ?_;refine zz 3 ?_;refine O.sT 12 rfl (by exact decide_eq_true (by rw [hz0];omega)) ?_;refine zz 29 ?_;exact S.rt results215 rfl hR ⟨congrArg _ (Bool.eq_false_iff.2 fun q=>n0 (shaped_iff.1 q).1).symm,rfl⟩
 have c0:=Classical.not_not.1 n0
 by_cases n1:¬ (x.1.length≤64)
 ·
  refine zz 1 ?_;refine O.op (.p rfl) (.fieldAddr fld74x1 rfl) ?_;refine zz 1 ?_;refine O.op (.p rfl) (.fieldAddr fld74x2 rfl) ?_;refine zz 1 ?_;refine O.op (.p rfl) (.build (cs:=[_,_]) underlying166 rfl rfl rfl rfl rfl)<|O.opE (.p rfl) (.alloc (cs:=[.int .i64 0,.int .i64 0]) zeroValue166 rfl) ?_;rintro _ _ ⟨b3,rfl,rfl⟩;refine zz 1 ?_;refine O.nil<|S.seq<|S.seq<|S.frzO zB fun g hs hm hb3=>?_;replace hg:=Fr.sub_trans hg hs;replace hR:=melted hR hm
  try replace h:=h.mono hs
  try replace k3:=k3.mono hs
  try replace k5:=k5.mono hs
  try replace k6:=k6.mono hs
  try replace hb1:=hb1.mono hs
  clear hs hm;refine zz 1 ?_;refine O.op (.p rfl) (.fieldAddr fld74x0 rfl) ?_;refine zz 3 ?_;refine O.sF 12 rfl (by exact decide_eq_false (by rw [hz0];omega)) ?_;refine zz 1 ?_;refine O.op (.g rfl rfl) (.fieldAddr fld74x0 rfl) ?_;refine zz 3 ?_;refine O.sT 17 rfl (by exact decide_eq_true (by rw [hz0];omega)) ?_;refine zz 24 ?_;exact S.rt results215 rfl hR ⟨congrArg _ (Bool.eq_false_iff.2 fun q=>n1 (shaped_iff.1 q).2.1).symm,rfl⟩
 have c1:=Classical.not_not.1 n1
 by_cases n2:¬ (dotOk (rDot x)=true)
 ·
  refine zz 1 ?_;refine O.op (.p rfl) (.fieldAddr fld74x1 rfl) ?_;refine zz 1 ?_;refine O.op (.p rfl) (.fieldAddr fld74x2 rfl) ?_;refine zz 1 ?_;refine O.op (.p rfl) (.build (cs:=[_,_]) underlying166 rfl rfl rfl rfl rfl)<|O.opE (.p rfl) (.alloc (cs:=[.int .i64 0,.int .i64 0]) zeroValue166 rfl) ?_;rintro _ _ ⟨b3,rfl,rfl⟩;refine zz 1 ?_;refine O.nil<|S.seq<|S.seq<|S.frzO zB fun g hs hm hb3=>?_;replace hg:=Fr.sub_trans hg hs;replace hR:=melted hR hm
  try replace h:=h.mono hs
  try replace k3:=k3.mono hs
  try replace k5:=k5.mono hs
  try replace k6:=k6.mono hs
  try replace hb1:=hb1.mono hs
  clear hs hm;refine zz 1 ?_;refine O.op (.p rfl) (.fieldAddr fld74x0 rfl) ?_;refine zz 3 ?_;refine O.sF 12 rfl (by exact decide_eq_false (by rw [hz0];omega)) ?_;refine zz 1 ?_;refine O.op (.g rfl rfl) (.fieldAddr fld74x0 rfl) ?_;refine zz 3 ?_;refine O.sF 17 rfl (by exact decide_eq_false (by rw [hz0];omega)) ?_;refine O.q 2 rfl<|O.op (.g rfl rfl) (.loadAgg isAgg166 zC rfl hb3) ?_;refine O.v0 (.g rfl rfl) rfl zC rfl rfl ((r7dot_c (rDot x) rfl)) ?_;refine O.sF 21 rfl (by exact (by simpa using n2)) ?_;refine zz 20 ?_;exact S.rt results215 rfl hR ⟨congrArg _ (Bool.eq_false_iff.2 fun q=>n2 (shaped_iff.1 q).2.2.1).symm,rfl⟩
 have c2:=Classical.not_not.1 n2
 by_cases n3:¬ (vecOk x.2.2.2.1=true)
 ·
  refine zz 1 ?_;refine O.op (.p rfl) (.fieldAddr fld74x1 rfl) ?_;refine zz 1 ?_;refine O.op (.p rfl) (.fieldAddr fld74x2 rfl) ?_;refine zz 1 ?_;refine O.op (.p rfl) (.build (cs:=[_,_]) underlying166 rfl rfl rfl rfl rfl)<|O.opE (.p rfl) (.alloc (cs:=[.int .i64 0,.int .i64 0]) zeroValue166 rfl) ?_;rintro _ _ ⟨b3,rfl,rfl⟩;refine zz 1 ?_;refine O.nil<|S.seq<|S.seq<|S.frzO zB fun g hs hm hb3=>?_;replace hg:=Fr.sub_trans hg hs;replace hR:=melted hR hm
  try replace h:=h.mono hs
  try replace k3:=k3.mono hs
  try replace k5:=k5.mono hs
  try replace k6:=k6.mono hs
  try replace hb1:=hb1.mono hs
  clear hs hm;refine zz 1 ?_;refine O.op (.p rfl) (.fieldAddr fld74x0 rfl) ?_;refine zz 3 ?_;refine O.sF 12 rfl (by exact decide_eq_false (by rw [hz0];omega)) ?_;refine zz 1 ?_;refine O.op (.g rfl rfl) (.fieldAddr fld74x0 rfl) ?_;refine zz 3 ?_;refine O.sF 17 rfl (by exact decide_eq_false (by rw [hz0];omega)) ?_;refine O.q 2 rfl<|O.op (.g rfl rfl) (.loadAgg isAgg166 zC rfl hb3) ?_;refine O.v0 (.g rfl rfl) rfl zC rfl rfl ((r7dot_c (rDot x) rfl)) ?_;refine O.sT 21 rfl (by exact c2) ?_;refine zz 3 ?_;refine O.op (.g rfl rfl) (.fieldAddr fld74x3 rfl) ?_;refine zz 1 ?_;refine O.v0 (.g rfl rfl) rfl zC rfl rfl ((r7right_c k3)) ?_;refine O.sF 27 rfl (by exact (by simpa using n3)) ?_;refine zz 14 ?_;exact S.rt results215 rfl hR ⟨congrArg _ (Bool.eq_false_iff.2 fun q=>n3 (shaped_iff.1 q).2.2.2.1).symm,rfl⟩
 have c3:=Classical.not_not.1 n3
 by_cases n4:¬ (hasR x.2.2.2.1 (rDot x)=false)
 ·
  refine zz 1 ?_;refine O.op (.p rfl) (.fieldAddr fld74x1 rfl) ?_;refine zz 1 ?_;refine O.op (.p rfl) (.fieldAddr fld74x2 rfl) ?_;refine zz 1 ?_;refine O.op (.p rfl) (.build (cs:=[_,_]) underlying166 rfl rfl rfl rfl rfl)<|O.opE (.p rfl) (.alloc (cs:=[.int .i64 0,.int .i64 0]) zeroValue166 rfl) ?_;rintro _ _ ⟨b3,rfl,rfl⟩;refine zz 1 ?_;refine O.nil<|S.seq<|S.seq<|S.frzO zB fun g hs hm hb3=>?_;replace hg:=Fr.sub_trans hg hs;replace hR:=melted hR hm
  try replace h:=h.mono hs
  try replace k3:=k3.mono hs
  try replace k5:=k5.mono hs
  try replace k6:=k6.mono hs
  try replace hb1:=hb1.mono hs
  clear hs hm;refine zz 1 ?_;refine O.op (.p rfl) (.fieldAddr fld74x0 rfl) ?_;refine zz 3 ?_;refine O.sF 12 rfl (by exact decide_eq_false (by rw [hz0];omega)) ?_;refine zz 1 ?_;refine O.op (.g rfl rfl) (.fieldAddr fld74x0 rfl) ?_;refine zz 3 ?_;refine O.sF 17 rfl (by exact decide_eq_false (by rw [hz0];omega)) ?_;refine O.q 2 rfl<|O.op (.g rfl rfl) (.loadAgg isAgg166 zC rfl hb3) ?_;refine O.v0 (.g rfl rfl) rfl zC rfl rfl ((r7dot_c (rDot x) rfl)) ?_;refine O.sT 21 rfl (by exact c2) ?_;refine zz 3 ?_;refine O.op (.g rfl rfl) (.fieldAddr fld74x3 rfl) ?_;refine zz 1 ?_;refine O.v0 (.g rfl rfl) rfl zC rfl rfl ((r7right_c k3)) ?_;refine O.sT 27 rfl (by exact c3) ?_;refine zz 3 ?_;refine O.op (.g rfl rfl) (.fieldAddr fld74x3 rfl) ?_;refine zz 1 ?_;refine O.op (.g rfl rfl) (.loadAgg isAgg166 zC rfl hb3) ?_;refine O.v0 (.g rfl rfl) rfl zC rfl rfl ((r7has_c (rDot x) rfl k3)) ?_;refine O.sT 34 rfl (by exact (by simpa using n4)) ?_;refine zz 7 ?_;exact S.rt results215 rfl hR ⟨congrArg _ (Bool.eq_false_iff.2 fun q=>n4 (shaped_iff.1 q).2.2.2.2.1).symm,rfl⟩
 have c4:=Classical.not_not.1 n4
 by_cases n5:¬ (x.2.2.2.2.2.1.length≤1024)
 ·
  refine zz 1 ?_;refine O.op (.p rfl) (.fieldAddr fld74x1 rfl) ?_;refine zz 1 ?_;refine O.op (.p rfl) (.fieldAddr fld74x2 rfl) ?_;refine zz 1 ?_;refine O.op (.p rfl) (.build (cs:=[_,_]) underlying166 rfl rfl rfl rfl rfl)<|O.opE (.p rfl) (.alloc (cs:=[.int .i64 0,.int .i64 0]) zeroValue166 rfl) ?_;rintro _ _ ⟨b3,rfl,rfl⟩;refine zz 1 ?_;refine O.nil<|S.seq<|S.seq<|S.frzO zB fun g hs hm hb3=>?_;replace hg:=Fr.sub_trans hg hs;replace hR:=melted hR hm
  try replace h:=h.mono hs
  try replace k3:=k3.mono hs
  try replace k5:=k5.mono hs
  try replace k6:=k6.mono hs
  try replace hb1:=hb1.mono hs
  clear hs hm;refine zz 1 ?_;refine O.op (.p rfl) (.fieldAddr fld74x0 rfl) ?_;refine zz 3 ?_;refine O.sF 12 rfl (by exact decide_eq_false (by rw [hz0];omega)) ?_;refine zz 1 ?_;refine O.op (.g rfl rfl) (.fieldAddr fld74x0 rfl) ?_;refine zz 3 ?_;refine O.sF 17 rfl (by exact decide_eq_false (by rw [hz0];omega)) ?_;refine O.q 2 rfl<|O.op (.g rfl rfl) (.loadAgg isAgg166 zC rfl hb3) ?_;refine O.v0 (.g rfl rfl) rfl zC rfl rfl ((r7dot_c (rDot x) rfl)) ?_;refine O.sT 21 rfl (by exact c2) ?_;refine zz 3 ?_;refine O.op (.g rfl rfl) (.fieldAddr fld74x3 rfl) ?_;refine zz 1 ?_;refine O.v0 (.g rfl rfl) rfl zC rfl rfl ((r7right_c k3)) ?_;refine O.sT 27 rfl (by exact c3) ?_;refine zz 3 ?_;refine O.op (.g rfl rfl) (.fieldAddr fld74x3 rfl) ?_;refine zz 1 ?_;refine O.op (.g rfl rfl) (.loadAgg isAgg166 zC rfl hb3) ?_;refine O.v0 (.g rfl rfl) rfl zC rfl rfl ((r7has_c (rDot x) rfl k3)) ?_;refine O.sF 34 rfl (by exact c4) ?_;refine zz 6 ?_;refine O.op (.p rfl) (.fieldAddr fld74x5 rfl) ?_;refine zz 3 ?_;refine O.sF 39 rfl (by exact decide_eq_false zD) ?_;refine zz 13 ?_;exact S.rt results215 rfl hR ⟨congrArg _ (Bool.eq_false_iff.2 fun q=>n5 (shaped_iff.1 q).2.2.2.2.2.1).symm,rfl⟩
 have c5:=Classical.not_not.1 n5
 cases g4:x.2.2.2.2.1 with
 |false =>
  have hs:shaped x=true:=shaped_iff.2 ⟨c0,c1,c2,c3,c4,c5,fun q=>by rw [g4] at q;cases q⟩;refine zz 1 ?_;refine O.op (.p rfl) (.fieldAddr fld74x1 rfl) ?_;refine zz 1 ?_;refine O.op (.p rfl) (.fieldAddr fld74x2 rfl) ?_;refine zz 1 ?_;refine O.op (.p rfl) (.build (cs:=[_,_]) underlying166 rfl rfl rfl rfl rfl)<|O.opE (.p rfl) (.alloc (cs:=[.int .i64 0,.int .i64 0]) zeroValue166 rfl) ?_;rintro _ _ ⟨b3,rfl,rfl⟩;refine zz 1 ?_;refine O.nil<|S.seq<|S.seq<|S.frzO zB fun g hs hm hb3=>?_;replace hg:=Fr.sub_trans hg hs;replace hR:=melted hR hm
  try replace h:=h.mono hs
  try replace k3:=k3.mono hs
  try replace k5:=k5.mono hs
  try replace k6:=k6.mono hs
  try replace hb1:=hb1.mono hs
  clear hs hm;refine zz 1 ?_;refine O.op (.p rfl) (.fieldAddr fld74x0 rfl) ?_;refine zz 3 ?_;refine O.sF 12 rfl (by exact decide_eq_false (by rw [hz0];omega)) ?_;refine zz 1 ?_;refine O.op (.g rfl rfl) (.fieldAddr fld74x0 rfl) ?_;refine zz 3 ?_;refine O.sF 17 rfl (by exact decide_eq_false (by rw [hz0];omega)) ?_;refine O.q 2 rfl<|O.op (.g rfl rfl) (.loadAgg isAgg166 zC rfl hb3) ?_;refine O.v0 (.g rfl rfl) rfl zC rfl rfl ((r7dot_c (rDot x) rfl)) ?_;refine O.sT 21 rfl (by exact c2) ?_;refine zz 3 ?_;refine O.op (.g rfl rfl) (.fieldAddr fld74x3 rfl) ?_;refine zz 1 ?_;refine O.v0 (.g rfl rfl) rfl zC rfl rfl ((r7right_c k3)) ?_;refine O.sT 27 rfl (by exact c3) ?_;refine zz 3 ?_;refine O.op (.g rfl rfl) (.fieldAddr fld74x3 rfl) ?_;refine zz 1 ?_;refine O.op (.g rfl rfl) (.loadAgg isAgg166 zC rfl hb3) ?_;refine O.v0 (.g rfl rfl) rfl zC rfl rfl ((r7has_c (rDot x) rfl k3)) ?_;refine O.sF 34 rfl (by exact c4) ?_;refine zz 6 ?_;refine O.op (.p rfl) (.fieldAddr fld74x5 rfl) ?_;refine zz 3 ?_;refine O.sT 39 rfl (by exact decide_eq_true zD) ?_;refine zz 1 ?_;refine O.op (.g rfl rfl) (.fieldAddr fld74x4 rfl) ?_;refine zz 1 ?_;refine O.sF 42 rfl (by exact g4) ?_;refine zz 10 ?_;exact S.rt results215 rfl hR ⟨by rw [hs],rfl⟩
 |true =>
  by_cases n6:x.2.2.2.2.2.1.length=0
  ·have hs:shaped x=true:=shaped_iff.2 ⟨c0,c1,c2,c3,c4,c5,fun _=>n6⟩
   refine zz 1 ?_;refine O.op (.p rfl) (.fieldAddr fld74x1 rfl) ?_;refine zz 1 ?_;refine O.op (.p rfl) (.fieldAddr fld74x2 rfl) ?_;refine zz 1 ?_;refine O.op (.p rfl) (.build (cs:=[_,_]) underlying166 rfl rfl rfl rfl rfl)<|O.opE (.p rfl) (.alloc (cs:=[.int .i64 0,.int .i64 0]) zeroValue166 rfl) ?_;rintro _ _ ⟨b3,rfl,rfl⟩;refine zz 1 ?_;refine O.nil<|S.seq<|S.seq<|S.frzO zB fun g hs hm hb3=>?_;replace hg:=Fr.sub_trans hg hs;replace hR:=melted hR hm
   try replace h:=h.mono hs
   try replace k3:=k3.mono hs
   try replace k5:=k5.mono hs
   try replace k6:=k6.mono hs
   try replace hb1:=hb1.mono hs
   clear hs hm;refine zz 1 ?_;refine O.op (.p rfl) (.fieldAddr fld74x0 rfl) ?_;refine zz 3 ?_;refine O.sF 12 rfl (by exact decide_eq_false (by rw [hz0];omega)) ?_;refine zz 1 ?_;refine O.op (.g rfl rfl) (.fieldAddr fld74x0 rfl) ?_;refine zz 3 ?_;refine O.sF 17 rfl (by exact decide_eq_false (by rw [hz0];omega)) ?_;refine O.q 2 rfl<|O.op (.g rfl rfl) (.loadAgg isAgg166 zC rfl hb3) ?_;refine O.v0 (.g rfl rfl) rfl zC rfl rfl ((r7dot_c (rDot x) rfl)) ?_;refine O.sT 21 rfl (by exact c2) ?_;refine zz 3 ?_;refine O.op (.g rfl rfl) (.fieldAddr fld74x3 rfl) ?_;refine zz 1 ?_;refine O.v0 (.g rfl rfl) rfl zC rfl rfl ((r7right_c k3)) ?_;refine O.sT 27 rfl (by exact c3) ?_;refine zz 3 ?_;refine O.op (.g rfl rfl) (.fieldAddr fld74x3 rfl) ?_;refine zz 1 ?_;refine O.op (.g rfl rfl) (.loadAgg isAgg166 zC rfl hb3) ?_;refine O.v0 (.g rfl rfl) rfl zC rfl rfl ((r7has_c (rDot x) rfl k3)) ?_;refine O.sF 34 rfl (by exact c4) ?_;refine zz 6 ?_;refine O.op (.p rfl) (.fieldAddr fld74x5 rfl) ?_;refine zz 3 ?_;refine O.sT 39 rfl (by exact decide_eq_true zD) ?_;refine zz 1 ?_;refine O.op (.g rfl rfl) (.fieldAddr fld74x4 rfl) ?_;refine zz 1 ?_;refine O.sT 42 rfl (by exact g4) ?_;refine zz 2 ?_;refine O.op (.g rfl rfl) (.fieldAddr fld74x5 rfl) ?_;refine zz 3 ?_;refine O.sT 48 rfl (by exact decide_eq_true zD) ?_;refine zz 4 ?_;exact S.rt results215 rfl hR ⟨by rw [hs],rfl⟩
  ·have hs:shaped x=false:=Bool.eq_false_iff.2 fun q=>n6 ((shaped_iff.1 q).2.2.2.2.2.2 g4)
   refine zz 1 ?_;refine O.op (.p rfl) (.fieldAddr fld74x1 rfl) ?_;refine zz 1 ?_;refine O.op (.p rfl) (.fieldAddr fld74x2 rfl) ?_;refine zz 1 ?_;refine O.op (.p rfl) (.build (cs:=[_,_]) underlying166 rfl rfl rfl rfl rfl)<|O.opE (.p rfl) (.alloc (cs:=[.int .i64 0,.int .i64 0]) zeroValue166 rfl) ?_;rintro _ _ ⟨b3,rfl,rfl⟩;refine zz 1 ?_;refine O.nil<|S.seq<|S.seq<|S.frzO zB fun g hs hm hb3=>?_;replace hg:=Fr.sub_trans hg hs;replace hR:=melted hR hm
   try replace h:=h.mono hs
   try replace k3:=k3.mono hs
   try replace k5:=k5.mono hs
   try replace k6:=k6.mono hs
   try replace hb1:=hb1.mono hs
   clear hs hm;refine zz 1 ?_;refine O.op (.p rfl) (.fieldAddr fld74x0 rfl) ?_;refine zz 3 ?_;refine O.sF 12 rfl (by exact decide_eq_false (by rw [hz0];omega)) ?_;refine zz 1 ?_;refine O.op (.g rfl rfl) (.fieldAddr fld74x0 rfl) ?_;refine zz 3 ?_;refine O.sF 17 rfl (by exact decide_eq_false (by rw [hz0];omega)) ?_;refine O.q 2 rfl<|O.op (.g rfl rfl) (.loadAgg isAgg166 zC rfl hb3) ?_;refine O.v0 (.g rfl rfl) rfl zC rfl rfl ((r7dot_c (rDot x) rfl)) ?_;refine O.sT 21 rfl (by exact c2) ?_;refine zz 3 ?_;refine O.op (.g rfl rfl) (.fieldAddr fld74x3 rfl) ?_;refine zz 1 ?_;refine O.v0 (.g rfl rfl) rfl zC rfl rfl ((r7right_c k3)) ?_;refine O.sT 27 rfl (by exact c3) ?_;refine zz 3 ?_;refine O.op (.g rfl rfl) (.fieldAddr fld74x3 rfl) ?_;refine zz 1 ?_;refine O.op (.g rfl rfl) (.loadAgg isAgg166 zC rfl hb3) ?_;refine O.v0 (.g rfl rfl) rfl zC rfl rfl ((r7has_c (rDot x) rfl k3)) ?_;refine O.sF 34 rfl (by exact c4) ?_;refine zz 6 ?_;refine O.op (.p rfl) (.fieldAddr fld74x5 rfl) ?_;refine zz 3 ?_;refine O.sT 39 rfl (by exact decide_eq_true zD) ?_;refine zz 1 ?_;refine O.op (.g rfl rfl) (.fieldAddr fld74x4 rfl) ?_;refine zz 1 ?_;refine O.sT 42 rfl (by exact g4) ?_;refine zz 2 ?_;refine O.op (.g rfl rfl) (.fieldAddr fld74x5 rfl) ?_;refine zz 3 ?_;refine O.sF 48 rfl (by exact decide_eq_false zD) ?_;refine zz 4 ?_;exact S.rt results215 rfl hR ⟨by rw [hs],rfl⟩
theorem r8right_c {r:Fr} {cs:List Value} {x:RecT} (h:RecRp.rel r cs x):Con prog 213 #[.agg cs.toArray] r [] (Ret fun v η=>v=.bool (recOk x)∧η=[]):=by
 obtain ⟨xa3,xa5,xa6,xc3,xc5,xc6,rfl,k0,k1,k2,k3,k5,k6⟩:=RecRp.sh h;have hz0:=str_size x.1;refine Con.o func213 fun g hg R hR=>?_;have h:=h.mono hg;have k3:=k3.mono hg;have k5:=k5.mono hg;have k6:=k6.mono hg;refine S.seq<|S.region rfl<|O.opE (.p rfl) (.box (cs:=[_,_,_,_,_,_,_]) rfl rfl) ?_;rintro _ _ ⟨b1,rfl,rfl⟩;refine zz 3 ?_;refine S.frzO zB fun g hs hm hb1=>?_;replace hg:=Fr.sub_trans hg hs;replace hR:=melted hR hm
 try replace h:=h.mono hs
 try replace k3:=k3.mono hs
 try replace k5:=k5.mono hs
 try replace k6:=k6.mono hs
 clear hs hm
 cases e:shaped x with
 |false =>
  refine S.region rfl<|O.op (.p rfl) (.loadAgg isAgg74 zC rfl hb1) ?_;refine O.v0 (.p rfl) rfl zC rfl rfl ((r8shape_c h)) ?_;refine O.sF 4 rfl (by exact e) ?_;refine zz 8 ?_;exact S.rt results213 rfl hR ⟨by simp [recOk,e],rfl⟩
 |true =>
  refine S.region rfl<|O.op (.p rfl) (.loadAgg isAgg74 zC rfl hb1) ?_;refine O.v0 (.p rfl) rfl zC rfl rfl ((r8shape_c h)) ?_;refine O.sT 4 rfl (by exact e) ?_;refine zz 1 ?_;refine O.op (.g rfl rfl) (.fieldAddr fld74x6 rfl) ?_;refine zz 6 ?_;exact S.rt results213 rfl hR ⟨congrArg _ (by rw [recOk,e,Bool.true_and];exact decide_eq_decide.2 zD),rfl⟩
theorem r8over_c {r:Fr} {cs ds:List Value} {x y:RecT} (h:RecRp.rel r cs x) (h' :RecRp.rel r ds y):Con prog 109 #[.agg cs.toArray,.agg ds.toArray] r [] (Ret fun v η=>v=.bool (over x y)∧η=[]):=by
 obtain ⟨xa3,xa5,xa6,xc3,xc5,xc6,rfl,k0,k1,k2,k3,k5,k6⟩:=RecRp.sh h;obtain ⟨ya3,ya5,ya6,yc3,yc5,yc6,rfl,j0,j1,j2,j3,j5,j6⟩:=RecRp.sh h';refine Con.o func109 fun g hg R hR=>?_;have h:=h.mono hg;have h' :=h'.mono hg;have k3:=k3.mono hg;refine S.seq<|S.region rfl<|O.opE (.p rfl) (.box (cs:=[_,_,_,_,_,_,_]) rfl rfl) ?_;rintro _ _ ⟨b2,rfl,rfl⟩;refine O.opE (.p rfl) (.box (cs:=[_,_,_,_,_,_,_]) rfl rfl) ?_;rintro _ _ ⟨b3,rfl,rfl⟩;refine zz 3 ?_
 cases e1:shaped x with
 |false =>
  refine zz 2 ?_;refine O.v0 (.p rfl) rfl zC rfl rfl ((r8shape_c h)) ?_;refine O.sF 6 rfl (by exact e1) ?_;refine zz 23 ?_;exact S.rt results109 rfl hR ⟨by simp [over,e1],rfl⟩
 |true =>
  cases e2:shaped y with
  |false =>
   refine zz 2 ?_;refine O.v0 (.p rfl) rfl zC rfl rfl ((r8shape_c h)) ?_;refine O.sT 6 rfl (by exact e1) ?_;refine zz 2 ?_;refine O.v0 (.g rfl rfl) rfl zC rfl rfl ((r8shape_c h')) ?_;refine O.sF 9 rfl (by exact e2) ?_;refine zz 20 ?_;exact S.rt results109 rfl hR ⟨by simp [over,e2],rfl⟩
  |true =>
   by_cases e3:x.1=y.1
   ·
    refine zz 2 ?_;refine O.v0 (.p rfl) rfl zC rfl rfl ((r8shape_c h)) ?_;refine O.sT 6 rfl (by exact e1) ?_;refine zz 2 ?_;refine O.v0 (.g rfl rfl) rfl zC rfl rfl ((r8shape_c h')) ?_;refine O.sT 9 rfl (by exact e2) ?_;refine zz 6 ?_;refine O.op (.g rfl rfl) (.eqlS rfl rfl)<|O.sT 16 rfl (by simp [e3]) ?_;refine zz 8 ?_;refine O.op (.g rfl rfl) (.build (cs:=[_,_]) underlying166 rfl rfl rfl rfl rfl)<|O.v0 (.g rfl rfl) rfl zC rfl rfl ((r7has_c (rDot y) rfl k3)) ?_;refine zz 3 ?_;exact S.rt results109 rfl hR ⟨by simp [over,e1,e2,e3],rfl⟩
   ·
    refine zz 2 ?_;refine O.v0 (.p rfl) rfl zC rfl rfl ((r8shape_c h)) ?_;refine O.sT 6 rfl (by exact e1) ?_;refine zz 2 ?_;refine O.v0 (.g rfl rfl) rfl zC rfl rfl ((r8shape_c h')) ?_;refine O.sT 9 rfl (by exact e2) ?_;refine zz 6 ?_;refine O.op (.g rfl rfl) (.eqlS rfl rfl)<|O.sF 16 rfl (by simp [e3]) ?_;refine zz 13 ?_;exact S.rt results109 rfl hR ⟨by simp [over,e3],rfl⟩
def recHead (x:RecT):List UInt8:=[1]++(bytesOf x.1++(be x.2.1++(be x.2.2.1++be x.2.2.2.1.length)))
theorem r8text_c {r:Fr} {cs:List Value} {x:RecT} (h:RecRp.rel r cs x) (hs:shaped x=true) :
  Con prog 285 #[.agg cs.toArray] r [] (Ret fun v η=>∃ a c,v=.slice a (recText x).length c∧η=[OwnP Rp.u8 5 (.slice a (recText x).length c) (recText x)]):=by
 obtain ⟨xa3,xa5,xa6,xc3,xc5,xc6,rfl,k0,k1,k2,k3,k5,k6⟩:=RecRp.sh h;obtain ⟨m0,m1,_,m3,_,m5,_⟩:=shaped_iff.1 hs;have m4:=rises_len m3;have hfl:[[1],bytesOf x.1,be x.2.1,be x.2.2.1,be x.2.2.2.1.length].flatten=recHead x:=by simp [recHead]
 have hhl:(recHead x).length=33+x.1.length:=by simp [recHead];omega
 refine Con.o func285 fun g hg R hR=>?_;have h:=h.mono hg;have k3:=k3.mono hg;have k5:=k5.mono hg;have k6:=k6.mono hg;refine S.seq<|S.region rfl<|O.opE (.p rfl) (.box (cs:=[_,_,_,_,_,_,_]) rfl rfl) ?_;rintro _ _ ⟨b1,rfl,rfl⟩;refine zz 4 ?_;refine S.frzO zB fun g hs hm hb1=>?_;replace hg:=Fr.sub_trans hg hs;replace hR:=melted hR hm
 try replace h:=h.mono hs
 try replace k3:=k3.mono hs
 try replace k5:=k5.mono hs
 try replace k6:=k6.mono hs
 clear hs hm;refine S.region rfl<|O.op (.p rfl) (.loadAgg isAgg74 zC rfl hb1) ?_;refine O.v0 (.p rfl) rfl zC rfl rfl ((r8shape_c h)) ?_;refine O.sT 7 rfl (by exact hs) ?_;refine zz 5 ?_;refine S.regionJ (L:=[1,2,5,6,8,9,11,12,13,0,3,4,7,10,14,15,16,17]) (fun (s:Option Addr × Nat)=>[(3,.slice s.1 (recHead x).length s.2)]) [(1,_)] (fun (s:Option Addr × Nat)=>[OwnP Rp.u8 5 (.slice s.1 (recHead x).length s.2) (recHead x)]) zq F.mixed zC (fun kk key=>?_) (fun s=>?_)
 ·refine zz 9 ?_
  refine OD.alt2 0 3 [3,4,7,10,14,15,16,17] [0,4,7,10,14,15,16,17] zC rfl rfl ?_ ?_
  ·refine ODt.litP (T:=Rp.u8) (ys:=[1]) (.p rfl) zC underlying31 elem5 zE rfl rfl ⟨rfl,trivial⟩ zE (fun a9 c9=>?_)
   refine OD.strBytesO (.p rfl) zC underlying9 underlying31 underlying5 rfl zW (fun a12 c12=>?_);refine OD.callB (.p rfl) zC rfl zC rfl rfl (bs:=[OwnP Rp.u8 5 (.slice a12 x.1.length c12) x.1]) zK (fun m hm hd=>refBytes_c (hm.arr.right hd) zD) ?_;rintro _ _ ⟨a13,c13,rfl,rfl⟩;refine OD.call0 (.p rfl) zC rfl zC rfl rfl (refNumber_c _) ?_;rintro _ _ ⟨a16,c16,rfl,rfl⟩;refine OD.call0 (.p rfl) zC rfl zC rfl rfl (refNumber_c _) ?_;rintro _ _ ⟨a19,c19,rfl,rfl⟩;refine OD.call0 (.p rfl) zC rfl zC rfl rfl (refNumber_c _) ?_;rintro _ _ ⟨a23,c23,rfl,rfl⟩;refine OD.litP (T:=Rp.val) (ys:=[_,_,_,_,_]) (.p rfl) zC underlying39 elem31 zE rfl rfl ⟨⟨rfl,rfl⟩,⟨rfl,rfl⟩,⟨rfl,rfl⟩,⟨rfl,rfl⟩,⟨rfl,rfl⟩,trivial⟩ zE (fun a24 c24=>?_)
   refine OD.callB (.p rfl) zC rfl zC rfl rfl (bs:=[OwnP Rp.val 31 (.slice a24 5 c24) [.slice a9 1 c9,.slice a13 (bytesOf x.1).length c13,.slice a16 8 c16,.slice a19 8 c19,.slice a23 8 c23],OwnP Rp.u8 5 (.slice a9 1 c9) [1],OwnP Rp.u8 5 (.slice a13 (bytesOf x.1).length c13) (bytesOf x.1),OwnP Rp.u8 5 (.slice a16 8 c16) (be x.2.1),OwnP Rp.u8 5 (.slice a19 8 c19) (be x.2.2.1),OwnP Rp.u8 5 (.slice a23 8 c23) (be x.2.2.2.1.length)]) zK (fun m hm hd=>refJoin_c (xss:=[[1],bytesOf x.1,be x.2.1,be x.2.2.1,be x.2.2.2.1.length]) ((hm.arr.right hd).rows ⟨hm.tail.arr.right hd,hm.tail.tail.arr.right hd,hm.tail.tail.tail.arr.right hd,hm.tail.tail.tail.tail.arr.right hd,hm.tail.tail.tail.tail.tail.arr.right hd,trivial⟩) (by rw [hfl];omega)) ?_;rintro _ _ ⟨a25,c25,rfl,rfl⟩;rw [hfl];refine OD.q 1 rfl<|ODx.nil<|S.pk ?_ (S.weaken (Sub.app zq zq) (key (a25,c25)))
   try dsimp only
   repeat (first|exact zpa|exact zpn|(apply zpc;focus (repeat (first|exact zh|apply zt)))|apply zps)
  ·refine ODt.strBytesO (.p rfl) zC underlying9 underlying31 underlying5 rfl zW (fun a12 c12=>?_)
   refine OD.alt2 0 4 [4,7,10,14,15,16,17] [0,7,10,14,15,16,17] zC rfl rfl ?_ ?_
   ·refine ODt.litP (T:=Rp.u8) (ys:=[1]) (.p rfl) zC underlying31 elem5 zE rfl rfl ⟨rfl,trivial⟩ zE (fun a9 c9=>?_)
    refine OD.callB (.p rfl) zC rfl zC rfl rfl (bs:=[OwnP Rp.u8 5 (.slice a12 x.1.length c12) x.1]) zK (fun m hm hd=>refBytes_c (hm.arr.right hd) zD) ?_;rintro _ _ ⟨a13,c13,rfl,rfl⟩;refine OD.call0 (.p rfl) zC rfl zC rfl rfl (refNumber_c _) ?_;rintro _ _ ⟨a16,c16,rfl,rfl⟩;refine OD.call0 (.p rfl) zC rfl zC rfl rfl (refNumber_c _) ?_;rintro _ _ ⟨a19,c19,rfl,rfl⟩;refine OD.call0 (.p rfl) zC rfl zC rfl rfl (refNumber_c _) ?_;rintro _ _ ⟨a23,c23,rfl,rfl⟩;refine OD.litP (T:=Rp.val) (ys:=[_,_,_,_,_]) (.p rfl) zC underlying39 elem31 zE rfl rfl ⟨⟨rfl,rfl⟩,⟨rfl,rfl⟩,⟨rfl,rfl⟩,⟨rfl,rfl⟩,⟨rfl,rfl⟩,trivial⟩ zE (fun a24 c24=>?_);refine OD.callB (.p rfl) zC rfl zC rfl rfl (bs:=[OwnP Rp.val 31 (.slice a24 5 c24) [.slice a9 1 c9,.slice a13 (bytesOf x.1).length c13,.slice a16 8 c16,.slice a19 8 c19,.slice a23 8 c23],OwnP Rp.u8 5 (.slice a9 1 c9) [1],OwnP Rp.u8 5 (.slice a13 (bytesOf x.1).length c13) (bytesOf x.1),OwnP Rp.u8 5 (.slice a16 8 c16) (be x.2.1),OwnP Rp.u8 5 (.slice a19 8 c19) (be x.2.2.1),OwnP Rp.u8 5 (.slice a23 8 c23) (be x.2.2.2.1.length)]) zK (fun m hm hd=>refJoin_c (xss:=[[1],bytesOf x.1,be x.2.1,be x.2.2.1,be x.2.2.2.1.length]) ((hm.arr.right hd).rows ⟨hm.tail.arr.right hd,hm.tail.tail.arr.right hd,hm.tail.tail.tail.arr.right hd,hm.tail.tail.tail.tail.arr.right hd,hm.tail.tail.tail.tail.tail.arr.right hd,trivial⟩) (by rw [hfl];omega)) ?_;rintro _ _ ⟨a25,c25,rfl,rfl⟩;rw [hfl]
    refine OD.q 1 rfl<|ODx.nil<|S.pk ?_ (S.weaken (Sub.app zq zq) (key (a25,c25)))
    try dsimp only
    repeat (first|exact zpa|exact zpn|(apply zpc;focus (repeat (first|exact zh|apply zt)))|apply zps)
   ·refine ODt.callB (.p rfl) zC rfl zC rfl rfl (bs:=[OwnP Rp.u8 5 (.slice a12 x.1.length c12) x.1]) zK (fun m hm hd=>refBytes_c (hm.arr.right hd) zD) ?_
    rintro _ _ ⟨a13,c13,rfl,rfl⟩;refine OD.alt2 0 7 [7,10,14,15,16,17] [0,10,14,15,16,17] zC rfl rfl ?_ ?_
    ·refine ODt.litP (T:=Rp.u8) (ys:=[1]) (.p rfl) zC underlying31 elem5 zE rfl rfl ⟨rfl,trivial⟩ zE (fun a9 c9=>?_)
     refine OD.call0 (.p rfl) zC rfl zC rfl rfl (refNumber_c _) ?_;rintro _ _ ⟨a16,c16,rfl,rfl⟩;refine OD.call0 (.p rfl) zC rfl zC rfl rfl (refNumber_c _) ?_;rintro _ _ ⟨a19,c19,rfl,rfl⟩;refine OD.call0 (.p rfl) zC rfl zC rfl rfl (refNumber_c _) ?_;rintro _ _ ⟨a23,c23,rfl,rfl⟩;refine OD.litP (T:=Rp.val) (ys:=[_,_,_,_,_]) (.p rfl) zC underlying39 elem31 zE rfl rfl ⟨⟨rfl,rfl⟩,⟨rfl,rfl⟩,⟨rfl,rfl⟩,⟨rfl,rfl⟩,⟨rfl,rfl⟩,trivial⟩ zE (fun a24 c24=>?_);refine OD.callB (.p rfl) zC rfl zC rfl rfl (bs:=[OwnP Rp.val 31 (.slice a24 5 c24) [.slice a9 1 c9,.slice a13 (bytesOf x.1).length c13,.slice a16 8 c16,.slice a19 8 c19,.slice a23 8 c23],OwnP Rp.u8 5 (.slice a9 1 c9) [1],OwnP Rp.u8 5 (.slice a13 (bytesOf x.1).length c13) (bytesOf x.1),OwnP Rp.u8 5 (.slice a16 8 c16) (be x.2.1),OwnP Rp.u8 5 (.slice a19 8 c19) (be x.2.2.1),OwnP Rp.u8 5 (.slice a23 8 c23) (be x.2.2.2.1.length)]) zK (fun m hm hd=>refJoin_c (xss:=[[1],bytesOf x.1,be x.2.1,be x.2.2.1,be x.2.2.2.1.length]) ((hm.arr.right hd).rows ⟨hm.tail.arr.right hd,hm.tail.tail.arr.right hd,hm.tail.tail.tail.arr.right hd,hm.tail.tail.tail.tail.arr.right hd,hm.tail.tail.tail.tail.tail.arr.right hd,trivial⟩) (by rw [hfl];omega)) ?_;rintro _ _ ⟨a25,c25,rfl,rfl⟩;rw [hfl];refine OD.q 1 rfl<|ODx.nil<|S.pk ?_ (S.weaken (Sub.app zq zq) (key (a25,c25)))
     try dsimp only
     repeat (first|exact zpa|exact zpn|(apply zpc;focus (repeat (first|exact zh|apply zt)))|apply zps)
    ·refine ODt.call0 (.p rfl) zC rfl zC rfl rfl (refNumber_c _) ?_
     rintro _ _ ⟨a16,c16,rfl,rfl⟩;refine OD.alt2 0 10 [10,14,15,16,17] [0,14,15,16,17] zC rfl rfl ?_ ?_
     ·refine ODt.litP (T:=Rp.u8) (ys:=[1]) (.p rfl) zC underlying31 elem5 zE rfl rfl ⟨rfl,trivial⟩ zE (fun a9 c9=>?_)
      refine OD.call0 (.p rfl) zC rfl zC rfl rfl (refNumber_c _) ?_;rintro _ _ ⟨a19,c19,rfl,rfl⟩;refine OD.call0 (.p rfl) zC rfl zC rfl rfl (refNumber_c _) ?_;rintro _ _ ⟨a23,c23,rfl,rfl⟩;refine OD.litP (T:=Rp.val) (ys:=[_,_,_,_,_]) (.p rfl) zC underlying39 elem31 zE rfl rfl ⟨⟨rfl,rfl⟩,⟨rfl,rfl⟩,⟨rfl,rfl⟩,⟨rfl,rfl⟩,⟨rfl,rfl⟩,trivial⟩ zE (fun a24 c24=>?_);refine OD.callB (.p rfl) zC rfl zC rfl rfl (bs:=[OwnP Rp.val 31 (.slice a24 5 c24) [.slice a9 1 c9,.slice a13 (bytesOf x.1).length c13,.slice a16 8 c16,.slice a19 8 c19,.slice a23 8 c23],OwnP Rp.u8 5 (.slice a9 1 c9) [1],OwnP Rp.u8 5 (.slice a13 (bytesOf x.1).length c13) (bytesOf x.1),OwnP Rp.u8 5 (.slice a16 8 c16) (be x.2.1),OwnP Rp.u8 5 (.slice a19 8 c19) (be x.2.2.1),OwnP Rp.u8 5 (.slice a23 8 c23) (be x.2.2.2.1.length)]) zK (fun m hm hd=>refJoin_c (xss:=[[1],bytesOf x.1,be x.2.1,be x.2.2.1,be x.2.2.2.1.length]) ((hm.arr.right hd).rows ⟨hm.tail.arr.right hd,hm.tail.tail.arr.right hd,hm.tail.tail.tail.arr.right hd,hm.tail.tail.tail.tail.arr.right hd,hm.tail.tail.tail.tail.tail.arr.right hd,trivial⟩) (by rw [hfl];omega)) ?_;rintro _ _ ⟨a25,c25,rfl,rfl⟩;rw [hfl];refine OD.q 1 rfl<|ODx.nil<|S.pk ?_ (S.weaken (Sub.app zq zq) (key (a25,c25)))
      try dsimp only
      repeat (first|exact zpa|exact zpn|(apply zpc;focus (repeat (first|exact zh|apply zt)))|apply zps)
     ·refine ODt.call0 (.p rfl) zC rfl zC rfl rfl (refNumber_c _) ?_
      rintro _ _ ⟨a19,c19,rfl,rfl⟩;refine OD.alt2 0 14 [14,15,16,17] [0,15,16,17] zC rfl rfl ?_ ?_
      ·refine ODt.litP (T:=Rp.u8) (ys:=[1]) (.p rfl) zC underlying31 elem5 zE rfl rfl ⟨rfl,trivial⟩ zE (fun a9 c9=>?_)
       refine OD.call0 (.p rfl) zC rfl zC rfl rfl (refNumber_c _) ?_;rintro _ _ ⟨a23,c23,rfl,rfl⟩;refine OD.litP (T:=Rp.val) (ys:=[_,_,_,_,_]) (.p rfl) zC underlying39 elem31 zE rfl rfl ⟨⟨rfl,rfl⟩,⟨rfl,rfl⟩,⟨rfl,rfl⟩,⟨rfl,rfl⟩,⟨rfl,rfl⟩,trivial⟩ zE (fun a24 c24=>?_);refine OD.callB (.p rfl) zC rfl zC rfl rfl (bs:=[OwnP Rp.val 31 (.slice a24 5 c24) [.slice a9 1 c9,.slice a13 (bytesOf x.1).length c13,.slice a16 8 c16,.slice a19 8 c19,.slice a23 8 c23],OwnP Rp.u8 5 (.slice a9 1 c9) [1],OwnP Rp.u8 5 (.slice a13 (bytesOf x.1).length c13) (bytesOf x.1),OwnP Rp.u8 5 (.slice a16 8 c16) (be x.2.1),OwnP Rp.u8 5 (.slice a19 8 c19) (be x.2.2.1),OwnP Rp.u8 5 (.slice a23 8 c23) (be x.2.2.2.1.length)]) zK (fun m hm hd=>refJoin_c (xss:=[[1],bytesOf x.1,be x.2.1,be x.2.2.1,be x.2.2.2.1.length]) ((hm.arr.right hd).rows ⟨hm.tail.arr.right hd,hm.tail.tail.arr.right hd,hm.tail.tail.tail.arr.right hd,hm.tail.tail.tail.tail.arr.right hd,hm.tail.tail.tail.tail.tail.arr.right hd,trivial⟩) (by rw [hfl];omega)) ?_;rintro _ _ ⟨a25,c25,rfl,rfl⟩;rw [hfl];refine OD.q 1 rfl<|ODx.nil<|S.pk ?_ (S.weaken (Sub.app zq zq) (key (a25,c25)))
       try dsimp only
       repeat (first|exact zpa|exact zpn|(apply zpc;focus (repeat (first|exact zh|apply zt)))|apply zps)
      ·refine ODt.call0 (.p rfl) zC rfl zC rfl rfl (refNumber_c _) ?_
       rintro _ _ ⟨a23,c23,rfl,rfl⟩;refine OD.litP (T:=Rp.u8) (ys:=[1]) (.p rfl) zC underlying31 elem5 zE rfl rfl ⟨rfl,trivial⟩ zE (fun a9 c9=>?_);refine OD.litP (T:=Rp.val) (ys:=[_,_,_,_,_]) (.p rfl) zC underlying39 elem31 zE rfl rfl ⟨⟨rfl,rfl⟩,⟨rfl,rfl⟩,⟨rfl,rfl⟩,⟨rfl,rfl⟩,⟨rfl,rfl⟩,trivial⟩ zE (fun a24 c24=>?_);refine OD.callB (.p rfl) zC rfl zC rfl rfl (bs:=[OwnP Rp.val 31 (.slice a24 5 c24) [.slice a9 1 c9,.slice a13 (bytesOf x.1).length c13,.slice a16 8 c16,.slice a19 8 c19,.slice a23 8 c23],OwnP Rp.u8 5 (.slice a9 1 c9) [1],OwnP Rp.u8 5 (.slice a13 (bytesOf x.1).length c13) (bytesOf x.1),OwnP Rp.u8 5 (.slice a16 8 c16) (be x.2.1),OwnP Rp.u8 5 (.slice a19 8 c19) (be x.2.2.1),OwnP Rp.u8 5 (.slice a23 8 c23) (be x.2.2.2.1.length)]) zK (fun m hm hd=>refJoin_c (xss:=[[1],bytesOf x.1,be x.2.1,be x.2.2.1,be x.2.2.2.1.length]) ((hm.arr.right hd).rows ⟨hm.tail.arr.right hd,hm.tail.tail.arr.right hd,hm.tail.tail.tail.arr.right hd,hm.tail.tail.tail.tail.arr.right hd,hm.tail.tail.tail.tail.tail.arr.right hd,trivial⟩) (by rw [hfl];omega)) ?_;rintro _ _ ⟨a25,c25,rfl,rfl⟩;rw [hfl];refine OD.q 1 rfl<|ODx.nil<|S.pk ?_ (S.weaken (Sub.app zq zq) (key (a25,c25)))
       try dsimp only
       repeat (first|exact zpa|exact zpn|(apply zpc;focus (repeat (first|exact zh|apply zt)))|apply zps)
 refine zz 6 ?_;refine S.ownIs (T:=Rp.u8) (e:=5) (v' :=.slice s.1 (recHead x++dotsB (x.2.2.2.1.take 0)).length s.2) (xs' :=recHead x++dotsB (x.2.2.2.1.take 0)) zB zG zG ?_;refine S.slot 3 (v' :=.slice s.1 (recHead x++dotsB (x.2.2.2.1.take 0)).length s.2) rfl zG ?_;refine S.loopK2 (ι:=Nat) (κ:=Option Addr × Nat) (fun i q=>i≤x.2.2.2.1.length) (fun i q=>[(3,.slice q.1 (recHead x++dotsB (x.2.2.2.1.take i)).length q.2),(4,.int .i64 (i:Int))]) [(1,_)] (fun i q=>[OwnP Rp.u8 5 (.slice q.1 (recHead x++dotsB (x.2.2.2.1.take i)).length q.2) (recHead x++dotsB (x.2.2.2.1.take i))]) (fun i q=>x.2.2.2.1.length - i) (0) (s) zG zq zq rfl fun i q hx ih=>?_;have hm1:=meltRefl (g:=g);refine zz 4 ?_;refine O.op (.p rfl) (.fieldAddr fld74x3 rfl) ?_;refine zz 4 ?_;refine S.cd rfl (fun h30=>?_) fun h30=>?_
 ·have hi:i<x.2.2.2.1.length:=by omega
  have htk:recHead x++dotsB (x.2.2.2.1.take i)++(be x.2.2.2.1[i].1++be x.2.2.2.1[i].2.1)=recHead x++dotsB (x.2.2.2.1.take (i+1)):=by rw [List.take_succ_eq_append_getElem hi,dotsB_snoc,List.append_assoc]
  have hln:(recHead x++dotsB (x.2.2.2.1.take i)).length≤1000:=by rw [List.length_append,dotsB_length,List.length_take];omega
  generalize recHead x++dotsB (x.2.2.2.1.take i)=so at htk hln ⊢;have hfl2:[so,be x.2.2.2.1[i].1,be x.2.2.2.1[i].2.1].flatten=recHead x++dotsB (x.2.2.2.1.take (i+1)):=by rw [← htk];simp
  have hl2:[so,be x.2.2.2.1[i].1,be x.2.2.2.1[i].2.1].flatten.length≤2000:=by simp;omega
  generalize hD:x.2.2.2.1[i]=dt at htk hfl2 hl2;refine zz 3 ?_;refine S.regionD (L:=[0,1,2,3,4,5,6,8,9,10,11,12,13,7,14,15,16,17]) F.mixed zC ?_;refine zz 3 ?_;refine OD.q 1 rfl<|OD.iz (k3) (h:=fun p37 cs37 hp37 hr37=>?_);obtain ⟨rfl,hi37,hj37⟩:=DotRp.open hr37;rw [hD] at hp37;refine zz 4 ?_;refine OD.q 1 rfl<|OD.iz (k3) (h:=fun p44 cs44 hp44 hr44=>?_);obtain ⟨rfl,hi44,hj44⟩:=DotRp.open hr44;rw [hD] at hp44;refine zz 2 ?_;refine OD.call0 (.p rfl) zC rfl zC rfl rfl (refNumber_c _) ?_;rintro _ _ ⟨a40,c40,rfl,rfl⟩;refine OD.call0 (.p rfl) zC rfl zC rfl rfl (refNumber_c _) ?_;rintro _ _ ⟨a47,c47,rfl,rfl⟩;refine OD.litP (T:=Rp.val) (ys:=[_,_,_]) (.p rfl) zC underlying39 elem31 zE rfl rfl ⟨⟨rfl,rfl⟩,⟨rfl,rfl⟩,⟨rfl,rfl⟩,trivial⟩ zE (fun a48 c48=>?_);refine OD.callB (.p rfl) zC rfl zC rfl rfl (bs:=[OwnP Rp.val 31 (.slice a48 3 c48) [.slice q.1 so.length q.2,.slice a40 8 c40,.slice a47 8 c47],OwnP Rp.u8 5 (.slice q.1 so.length q.2) so,OwnP Rp.u8 5 (.slice a40 8 c40) (be dt.1),OwnP Rp.u8 5 (.slice a47 8 c47) (be dt.2.1)]) zK (fun m hm hd=>refJoin_c (xss:=[so,be dt.1,be dt.2.1]) ((hm.arr.right hd).rows ⟨hm.tail.arr.right hd,hm.tail.tail.arr.right hd,hm.tail.tail.tail.arr.right hd,trivial⟩) zD) ?_;rintro _ _ ⟨a49,c49,rfl,rfl⟩;rw [hfl2];refine zz 8 ?_;exact S.pw (ih (i+1) ((a49,c49)) zD zD)
 ·clear ih
  have hi:i=x.2.2.2.1.length:=by omega
  subst hi;rw [List.take_length];generalize hso:recHead x++dotsB x.2.2.2.1=so;have hsl:so.length≤2000:=by rw [← hso,List.length_append,dotsB_length];omega
  have hrt:[so,[goneB x.2.2.2.2.1],bytesOf x.2.2.2.2.2.1].flatten=recText x:=by rw [← hso];simp [recHead,recText]
  have hrl:(recText x).length≤100000:=by rw [recText_length];omega
  refine zz 4 ?_;refine O.nil (S.seq (S.seq ?_))
  cases g4:x.2.2.2.2.1 with
  |false =>
   rw [g4] at hrt;refine zz 1 ?_;refine O.op (.p rfl) (.fieldAddr fld74x4 rfl) ?_;refine zz 1 ?_;refine O.sF 51 rfl (by exact g4) ?_;refine zz 7 ?_;refine O.opE (.p rfl) (.litP (T:=Rp.u8) (ys:=[goneB false]) underlying31 elem5 zE rfl rfl ⟨rfl,trivial⟩ zE) ?_;rintro _ _ ⟨a54,c54,rfl,rfl⟩;refine O.op (.p rfl) (.fieldAddr fld74x5 rfl) ?_;refine zz 1 ?_;refine O.call0 (.p rfl) rfl zC rfl rfl (refBytes_c zA zI) ?_;rintro _ _ ⟨a57,c57,rfl,rfl⟩;refine O.opE (.p rfl) (.litP (T:=Rp.val) (ys:=[_,_,_]) underlying39 elem31 zE rfl rfl ⟨⟨rfl,rfl⟩,⟨rfl,rfl⟩,⟨rfl,rfl⟩,trivial⟩ zE) ?_;rintro _ _ ⟨a58,c58,rfl,rfl⟩;refine O.callB (.p rfl) rfl zC rfl rfl (bs:=[OwnP Rp.val 31 (.slice a58 3 c58) [.slice q.1 so.length q.2,.slice a54 1 c54,.slice a57 (bytesOf x.2.2.2.2.2.1).length c57],OwnP Rp.u8 5 (.slice q.1 so.length q.2) so,OwnP Rp.u8 5 (.slice a54 1 c54) [goneB false],OwnP Rp.u8 5 (.slice a57 (bytesOf x.2.2.2.2.2.1).length c57) (bytesOf x.2.2.2.2.2.1)]) zK (fun m hm hd=>refJoin_c (xss:=[so,[goneB false],bytesOf x.2.2.2.2.2.1]) ((hm.arr.right hd).rows ⟨hm.tail.arr.right hd,hm.tail.tail.arr.right hd,hm.tail.tail.tail.arr.right hd,trivial⟩) (by rw [hrt];omega)) ?_;rintro _ _ ⟨a59,c59,rfl,rfl⟩;rw [hrt];refine zz 2 ?_;exact S.rt results285 rfl hR ⟨a59,c59,rfl,rfl⟩
  |true =>
   rw [g4] at hrt;refine zz 1 ?_;refine O.op (.p rfl) (.fieldAddr fld74x4 rfl) ?_;refine zz 1 ?_;refine O.sT 51 rfl (by exact g4) ?_;refine zz 9 ?_;refine O.opE (.p rfl) (.litP (T:=Rp.u8) (ys:=[goneB true]) underlying31 elem5 zE rfl rfl ⟨rfl,trivial⟩ zE) ?_;rintro _ _ ⟨a54,c54,rfl,rfl⟩;refine O.op (.p rfl) (.fieldAddr fld74x5 rfl) ?_;refine zz 1 ?_;refine O.call0 (.p rfl) rfl zC rfl rfl (refBytes_c zA zI) ?_;rintro _ _ ⟨a57,c57,rfl,rfl⟩;refine O.opE (.p rfl) (.litP (T:=Rp.val) (ys:=[_,_,_]) underlying39 elem31 zE rfl rfl ⟨⟨rfl,rfl⟩,⟨rfl,rfl⟩,⟨rfl,rfl⟩,trivial⟩ zE) ?_;rintro _ _ ⟨a58,c58,rfl,rfl⟩;refine O.callB (.p rfl) rfl zC rfl rfl (bs:=[OwnP Rp.val 31 (.slice a58 3 c58) [.slice q.1 so.length q.2,.slice a54 1 c54,.slice a57 (bytesOf x.2.2.2.2.2.1).length c57],OwnP Rp.u8 5 (.slice q.1 so.length q.2) so,OwnP Rp.u8 5 (.slice a54 1 c54) [goneB true],OwnP Rp.u8 5 (.slice a57 (bytesOf x.2.2.2.2.2.1).length c57) (bytesOf x.2.2.2.2.2.1)]) zK (fun m hm hd=>refJoin_c (xss:=[so,[goneB true],bytesOf x.2.2.2.2.2.1]) ((hm.arr.right hd).rows ⟨hm.tail.arr.right hd,hm.tail.tail.arr.right hd,hm.tail.tail.tail.arr.right hd,trivial⟩) (by rw [hrt];omega)) ?_;rintro _ _ ⟨a59,c59,rfl,rfl⟩;rw [hrt];refine zz 2 ?_;exact S.rt results285 rfl hR ⟨a59,c59,rfl,rfl⟩
theorem r8put_c {r:Fr} {cs:List Value} {x:RecT} (h:RecRp.rel r cs x) :
  Con prog 214 #[.agg cs.toArray] r [] (Ret fun v η=>∃ a c,v=.tuple #[.slice a (recOut x).length c,.int .i64 (recErr x)]∧η=[OwnP Rp.u8 5 (.slice a (recOut x).length c) (recOut x)]):=by
 obtain ⟨xa3,xa5,xa6,xc3,xc5,xc6,rfl,k0,k1,k2,k3,k5,k6⟩:=RecRp.sh h;refine Con.o func214 fun g hg R hR=>?_;have h:=h.mono hg;have k6:=k6.mono hg;refine S.seq<|S.region rfl<|O.opE (.p rfl) (.box (cs:=[_,_,_,_,_,_,_]) rfl rfl) ?_;rintro _ _ ⟨b1,rfl,rfl⟩;refine zz 5 ?_;refine S.frzO zB fun g hs hm hb1=>?_;replace hg:=Fr.sub_trans hg hs;replace hR:=melted hR hm
 try replace h:=h.mono hs
 try replace k6:=k6.mono hs
 clear hs hm
 cases e:recOk x with
 |false =>
  have e1:recOut x=[]:=by simp [recOut,e]
  have e2:recErr x=4:=by simp [recErr,e]
  rw [e1,e2] at hR;refine S.region rfl<|O.op (.p rfl) (.loadAgg isAgg74 zC rfl hb1) ?_;refine O.v0 (.p rfl) rfl zC rfl rfl ((r8right_c h)) ?_;refine O.sF 5 rfl (by exact e) ?_;refine zz 8 ?_;refine S.addNil (T:=Rp.u8) (e:=5) ?_;refine S.ret2 results214 rfl rfl fun w hw=>Holds.end_ hR hw ?_;exact pk ⟨none,0,rfl,rfl⟩
 |true =>
  have e1:recOut x=recB x:=by simp [recOut,e]
  have e2:recErr x=0:=by simp [recErr,e]
  rw [e1,e2] at hR;have hs:=(recOk_iff.1 e).1;have hbl:=recB_le e;have htl:=recText_le hs;have hfl:[recText x,x.2.2.2.2.2.2.1].flatten=recB x:=by simp [recB]
  refine S.region rfl<|O.op (.p rfl) (.loadAgg isAgg74 zC rfl hb1) ?_;refine O.v0 (.p rfl) rfl zC rfl rfl ((r8right_c h)) ?_;refine O.sT 5 rfl (by exact e) ?_;refine zz 5 ?_;refine S.regionD (L:=[0,2,3,1,4,5,6,7]) F.mixed zC<|.quiet (.p rfl) rfl (fun _=>.loadAgg isAgg74 zC rfl hb1) ?_;refine zz 2 ?_;refine OD.call0 (.p rfl) zC rfl zC rfl rfl ((r8text_c h hs)) ?_;rintro _ _ ⟨a8,c8,rfl,rfl⟩;refine OD.litP (T:=Rp.val) (ys:=[_,_]) (.p rfl) zC underlying39 elem31 zE rfl rfl ⟨⟨rfl,rfl⟩,⟨rfl,rfl⟩,trivial⟩ zE (fun a11 c11=>?_);refine OD.callB (.p rfl) zC rfl zC rfl rfl (bs:=[OwnP Rp.val 31 (.slice a11 2 c11) [.slice a8 (recText x).length c8,.slice xa6 x.2.2.2.2.2.2.1.length xc6],OwnP Rp.u8 5 (.slice a8 (recText x).length c8) (recText x)]) zK (fun m hm hd=>refJoin_c (xss:=[recText x,x.2.2.2.2.2.2.1]) ((hm.arr.right hd).rows ⟨hm.tail.arr.right hd,k6.left,trivial⟩) (by rw [hfl];omega)) ?_;rintro _ _ ⟨a12,c12,rfl,rfl⟩;rw [hfl];refine OD.q 2 rfl<|ODx.nil<|S.ret2 results214 rfl rfl fun w hw=>Holds.end_ hR hw ?_;exact pk ⟨a12,c12,rfl,rfl⟩
end Go.Proofs.YtodhbhanmdfdeaaGreat
