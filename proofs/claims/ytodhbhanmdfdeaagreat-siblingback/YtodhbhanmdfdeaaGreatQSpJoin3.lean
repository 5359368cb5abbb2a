/- Texts of this proof. -/
import Derived.Test.YtodhbhanmdfdeaaGreatQSpJoin
namespace Go.Sp
theorem joinL_sub {l:List RecT} (ho:∀ x∈l,recOk x=true):∀ x∈joinL l,x∈l:=fun _ hx=>((joinL_mem ho).1 hx).1.1
theorem oneK_of {l m:List RecT} (h:oneK l=true) (hs:∀ x∈m,x∈l):oneK m=true:=by
 have key:∀ {l:List RecT},oneK l=true→∀ x∈l,∀ y∈l,x.1=y.1:=fun {l} h x hx y hy=>by
  rw [oneK_iff] at h;obtain ⟨i,hi,rfl⟩:=List.mem_iff_getElem.1 hx;obtain ⟨j,hj,rfl⟩:=List.mem_iff_getElem.1 hy;rw [(h i hi).2,(h j hj).2]
 rw [oneK_iff]
 intro i hi
 exact ⟨oneK_all h _ (hs _ (List.getElem_mem _)),key h _ (hs _ (List.getElem_mem _)) _ (hs _ (List.getElem_mem _))⟩
end Go.Sp
