/- Texts of this proof. -/
import Derived.Test.YtodhbhanmdfdeaaGreatQSpRs5
namespace Go.Sp
theorem sGet_self {l:List RecT} (h:SRight l) (hb:(sB l).length≤1000000000):sGet (sB l)=some l:=(sGet_iff (by omega)).2 ⟨h,rfl⟩
theorem sGet_more {l:List RecT} {t:List UInt8} (h:SRight l) (hb:(sB l++t).length≤1000000000) (ht:t≠[]):sGet (sB l++t)=none:=by
 have hlen:(sB l).length=8+(sRows l).length:=by simp [sB]
 have hmin:=sRows_min l;have hap:=List.length_append (as:=sB l) (bs:=t);have e1:(RS.mk true (sB l++t)).count (((sB l++t).length / 8:Nat):Int)=((l.length:Int),⟨true,sRows l++t⟩):=by
  rw [sB,List.append_assoc];exact RS.count_be ⟨by omega,by omega⟩ (by simp<;>omega) (by simp<;>omega) _
 have e2:=setP_rows (most:=((sB l++t).length:Int)) l t fun x hx=>⟨oneK_all h.1 x hx,by have:=rec_in_rows hx;omega⟩;unfold sGet
 simp only
 rw [e1];simp only [Int.toNat_natCast];rw [e2];simp only [Option.bind_some];rw [if_neg]
 intro q
 obtain ⟨_,g2⟩:=RS.done_iff.1 q.1;exact ht g2
theorem sGet_cut {l:List RecT} {k:Nat} (h:SRight l) (hb:(sB l).length≤1000000000) (hk:k<(sB l).length):sGet ((sB l).take k)=none:=by
 cases e:sGet ((sB l).take k) with
 |none=>rfl
 |some m =>
  obtain ⟨h1,h2⟩:=(sGet_iff (by rw [List.length_take];omega)).1 e;have h3:sB m++(sB l).drop k=sB l:=by rw [h2,List.take_append_drop]
  have h4:=sGet_more (t:=(sB l).drop k) h1 (by rw [h3];exact hb) (fun q=>by have:=congrArg List.length q;rw [List.length_drop,List.length_nil] at this;omega);rw [h3,sGet_self h hb] at h4
  cases h4
end Go.Sp
