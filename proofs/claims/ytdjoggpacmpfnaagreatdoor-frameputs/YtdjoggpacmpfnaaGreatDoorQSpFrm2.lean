/- Texts of this proof. -/
import Derived.Test.YtdjoggpacmpfnaaGreatDoorQSpFrm
namespace Go.Sp
theorem s8 {f g:aP} (h0:f.1=g.1) (h1:f.2.1=g.2.1) (h2:f.2.2.1=g.2.2.1) (h3:f.2.2.2.1=g.2.2.2.1) (h4:f.2.2.2.2.1=g.2.2.2.2.1) (h5:f.2.2.2.2.2.1=g.2.2.2.2.2.1) (h6:f.2.2.2.2.2.2.1=g.2.2.2.2.2.2.1) (h7:f.2.2.2.2.2.2.2.1=g.2.2.2.2.2.2.2.1) (h8:f.2.2.2.2.2.2.2.2.1=g.2.2.2.2.2.2.2.2.1) (h9:f.2.2.2.2.2.2.2.2.2.1=g.2.2.2.2.2.2.2.2.2.1) (h10:f.2.2.2.2.2.2.2.2.2.2.1=g.2.2.2.2.2.2.2.2.2.2.1) (h11:f.2.2.2.2.2.2.2.2.2.2.2.1=g.2.2.2.2.2.2.2.2.2.2.2.1):f=g:=by
 obtain ⟨a0,a1,a2,a3,a4,a5,a6,a7,a8,a9,c6,cQ,⟨⟩⟩:=f;obtain ⟨b0,b1,b2,b3,b4,iL,kG,gF,kf,nj,rF,pH,⟨⟩⟩:=g;simp only at h0 h1 h2 h3 h4 h5 h6 h7 h8 h9 h10 h11;subst h0 h1 h2 h3 h4 h5 h6 h7 h8 h9 h10 h11
 rfl
def gz (f:aP):aP:=if f.1=1 then (f.1,f.2.1,0,f.2.2.2.1,f.2.2.2.2.1,f.2.2.2.2.2.1,f.2.2.2.2.2.2.1,f.2.2.2.2.2.2.2.1,f.2.2.2.2.2.2.2.2.1,f.2.2.2.2.2.2.2.2.2.1,f.2.2.2.2.2.2.2.2.2.2.1,f.2.2.2.2.2.2.2.2.2.2.2.1,()) else if f.1=2 then (f.1,f.2.1,f.2.2.1,f.2.2.2.1,f.2.2.2.2.1,dL,[],f.2.2.2.2.2.2.2.1,f.2.2.2.2.2.2.2.2.1,f.2.2.2.2.2.2.2.2.2.1,f.2.2.2.2.2.2.2.2.2.2.1,f.2.2.2.2.2.2.2.2.2.2.2.1,()) else if f.1=3 then (f.1,f.2.1,f.2.2.1,f.2.2.2.1,[],f.2.2.2.2.2.1,f.2.2.2.2.2.2.1,f.2.2.2.2.2.2.2.1,f.2.2.2.2.2.2.2.2.1,f.2.2.2.2.2.2.2.2.2.1,f.2.2.2.2.2.2.2.2.2.2.1,f.2.2.2.2.2.2.2.2.2.2.2.1,()) else if f.1=4 then (f.1,f.2.1,f.2.2.1,f.2.2.2.1,[],f.2.2.2.2.2.1,f.2.2.2.2.2.2.1,f.2.2.2.2.2.2.2.1,ek,f.2.2.2.2.2.2.2.2.2.1,f.2.2.2.2.2.2.2.2.2.2.1,f.2.2.2.2.2.2.2.2.2.2.2.1,()) else if f.1=5 then (f.1,f.2.1,f.2.2.1,f.2.2.2.1,f.2.2.2.2.1,f.2.2.2.2.2.1,f.2.2.2.2.2.2.1,f.2.2.2.2.2.2.2.1,f.2.2.2.2.2.2.2.2.1,[],f.2.2.2.2.2.2.2.2.2.2.1,f.2.2.2.2.2.2.2.2.2.2.2.1,()) else if f.1=6 then (f.1,f.2.1,f.2.2.1,f.2.2.2.1,f.2.2.2.2.1,f.2.2.2.2.2.1,f.2.2.2.2.2.2.1,f.2.2.2.2.2.2.2.1,f.2.2.2.2.2.2.2.2.1,f.2.2.2.2.2.2.2.2.2.1,f.2.2.2.2.2.2.2.2.2.2.1,0,()) else if f.1=7 then (f.1,f.2.1,f.2.2.1,[],f.2.2.2.2.1,f.2.2.2.2.2.1,f.2.2.2.2.2.2.1,f.2.2.2.2.2.2.2.1,f.2.2.2.2.2.2.2.2.1,f.2.2.2.2.2.2.2.2.2.1,f.2.2.2.2.2.2.2.2.2.2.1,f.2.2.2.2.2.2.2.2.2.2.2.1,()) else if f.1=8 then (f.1,f.2.1,f.2.2.1,[],f.2.2.2.2.1,dL,f.2.2.2.2.2.2.1,en,f.2.2.2.2.2.2.2.2.1,[],f.2.2.2.2.2.2.2.2.2.2.1,f.2.2.2.2.2.2.2.2.2.2.2.1,()) else if f.1=9 then (f.1,f.2.1,f.2.2.1,f.2.2.2.1,f.2.2.2.2.1,f.2.2.2.2.2.1,f.2.2.2.2.2.2.1,f.2.2.2.2.2.2.2.1,f.2.2.2.2.2.2.2.2.1,f.2.2.2.2.2.2.2.2.2.1,ef,f.2.2.2.2.2.2.2.2.2.2.2.1,()) else f
def qg (f:aP):Prop:=f.2.2.1=0∧f.2.2.2.1=[]∧f.2.2.2.2.1=[]∧(∀ x∈[f.2.2.2.2.2.1,f.2.2.2.2.2.2.2.2.2.2.1.1,f.2.2.2.2.2.2.2.2.2.2.1.2.1],x=dL)∧f.2.2.2.2.2.2.1.length+f.2.2.2.2.2.2.2.2.2.1.length+f.2.2.2.2.2.2.2.1.1.length+f.2.2.2.2.2.2.2.1.2.1.length=0∧f.2.2.2.2.2.2.2.2.1.1=0∧f.2.2.2.2.2.2.2.2.1.2.1.length+f.2.2.2.2.2.2.2.2.1.2.2.1.length+f.2.2.2.2.2.2.2.2.1.2.2.2.1.length=0∧f.2.2.2.2.2.2.2.2.2.2.2.1=0
theorem uk {f:aP}:qg f↔f.2.2.1=0∧f.2.2.2.1=[]∧f.2.2.2.2.1=[]∧f.2.2.2.2.2.1=dL∧f.2.2.2.2.2.2.1=[]∧f.2.2.2.2.2.2.2.1=en∧f.2.2.2.2.2.2.2.2.1=ek∧f.2.2.2.2.2.2.2.2.2.1=[]∧f.2.2.2.2.2.2.2.2.2.2.1=ef∧f.2.2.2.2.2.2.2.2.2.2.2.1=0:=by
 obtain ⟨a0,a1,a2,a3,a4,a5,a6,⟨s,t,⟨⟩⟩,⟨n,l,r,v,⟨⟩⟩,a9,⟨x,y,⟨⟩⟩,cQ,⟨⟩⟩:=f;unfold qg;simp only [List.mem_cons,List.not_mem_nil,or_false,forall_eq_or_imp,forall_eq]
 constructor
 ·rintro ⟨h2,h3,h4,⟨h5,h6,h7⟩,h8,h9,h10,h11⟩
  have e1:a6=[]:=List.length_eq_zero_iff.1 (by omega);have e2:a9=[]:=List.length_eq_zero_iff.1 (by omega);have cZ:s=[]:=List.length_eq_zero_iff.1 (by omega);have fV:t=[]:=List.length_eq_zero_iff.1 (by omega);have lE:l=[]:=List.length_eq_zero_iff.1 (by omega);have xV:r=[]:=List.length_eq_zero_iff.1 (by omega);have uF:v=[]:=List.length_eq_zero_iff.1 (by omega);subst h2 h3 h4 h5 h6 h7 h9 h11 e1 e2 cZ fV lE xV uF;exact ⟨rfl,rfl,rfl,rfl,rfl,rfl,rfl,rfl,rfl,rfl⟩
 ·rintro ⟨h2,h3,h4,h5,h6,h7,h8,h9,h10,h11⟩
  unfold en at h7;unfold ek at h8;unfold ef at h10
  injection h7 with h7 J1;injection J1 with J1 _
  injection h8 with h8 u8;injection u8 with u8 ey;injection ey with ey J6;injection J6 with J6 _
  injection h10 with h10 J0;injection J0 with J0 _
  subst h2 h3 h4 h5 h6 h7 J1 h8 u8 ey J6 h9 h10 J0 h11;exact ⟨rfl,rfl,rfl,⟨rfl,rfl,rfl⟩,rfl,rfl,rfl,rfl⟩
theorem Iu {f:aP} (e:f.1=1):gz f=(f.1,f.2.1,0,f.2.2.2.1,f.2.2.2.2.1,f.2.2.2.2.2.1,f.2.2.2.2.2.2.1,f.2.2.2.2.2.2.2.1,f.2.2.2.2.2.2.2.2.1,f.2.2.2.2.2.2.2.2.2.1,f.2.2.2.2.2.2.2.2.2.2.1,f.2.2.2.2.2.2.2.2.2.2.2.1,()):=by unfold gz;rw [if_pos e]
theorem E2 {f:aP} (e:f.1=1):ec f=(f.1,f.2.1,f.2.2.1,[],[],dL,[],en,ek,[],ef,0,()):=by unfold ec;rw [if_pos e]
theorem aeV {f:aP} (e:f.1=1):qg (gz f)↔f=ec f:=by
 rw [Iu e,E2 e,uk]
 constructor
 ·rintro ⟨h2,h3,h4,h5,h6,h7,h8,h9,h10,h11⟩
  exact s8 rfl rfl rfl h3 h4 h5 h6 h7 h8 h9 h10 h11
 ·intro h
  exact ⟨rfl,congrArg (fun f:aP=>f.2.2.2.1) h,congrArg (fun f:aP=>f.2.2.2.2.1) h,congrArg (fun f:aP=>f.2.2.2.2.2.1) h,congrArg (fun f:aP=>f.2.2.2.2.2.2.1) h,congrArg (fun f:aP=>f.2.2.2.2.2.2.2.1) h,congrArg (fun f:aP=>f.2.2.2.2.2.2.2.2.1) h,congrArg (fun f:aP=>f.2.2.2.2.2.2.2.2.2.1) h,congrArg (fun f:aP=>f.2.2.2.2.2.2.2.2.2.2.1) h,congrArg (fun f:aP=>f.2.2.2.2.2.2.2.2.2.2.2.1) h⟩
theorem Iv {f:aP} (e:f.1=2):gz f=(f.1,f.2.1,f.2.2.1,f.2.2.2.1,f.2.2.2.2.1,dL,[],f.2.2.2.2.2.2.2.1,f.2.2.2.2.2.2.2.2.1,f.2.2.2.2.2.2.2.2.2.1,f.2.2.2.2.2.2.2.2.2.2.1,f.2.2.2.2.2.2.2.2.2.2.2.1,()):=by unfold gz;rw [if_neg (by rw [e];decide),if_pos e]
theorem E3 {f:aP} (e:f.1=2):ec f=(f.1,f.2.1,0,[],[],f.2.2.2.2.2.1,f.2.2.2.2.2.2.1,en,ek,[],ef,0,()):=by unfold ec;rw [if_neg (by rw [e];decide),if_pos e]
theorem aeW {f:aP} (e:f.1=2):qg (gz f)↔f=ec f:=by
 rw [Iv e,E3 e,uk]
 constructor
 ·rintro ⟨h2,h3,h4,h5,h6,h7,h8,h9,h10,h11⟩
  exact s8 rfl rfl h2 h3 h4 rfl rfl h7 h8 h9 h10 h11
 ·intro h
  exact ⟨congrArg (fun f:aP=>f.2.2.1) h,congrArg (fun f:aP=>f.2.2.2.1) h,congrArg (fun f:aP=>f.2.2.2.2.1) h,rfl,rfl,congrArg (fun f:aP=>f.2.2.2.2.2.2.2.1) h,congrArg (fun f:aP=>f.2.2.2.2.2.2.2.2.1) h,congrArg (fun f:aP=>f.2.2.2.2.2.2.2.2.2.1) h,congrArg (fun f:aP=>f.2.2.2.2.2.2.2.2.2.2.1) h,congrArg (fun f:aP=>f.2.2.2.2.2.2.2.2.2.2.2.1) h⟩
theorem Iw {f:aP} (e:f.1=3):gz f=(f.1,f.2.1,f.2.2.1,f.2.2.2.1,[],f.2.2.2.2.2.1,f.2.2.2.2.2.2.1,f.2.2.2.2.2.2.2.1,f.2.2.2.2.2.2.2.2.1,f.2.2.2.2.2.2.2.2.2.1,f.2.2.2.2.2.2.2.2.2.2.1,f.2.2.2.2.2.2.2.2.2.2.2.1,()):=by unfold gz;rw [if_neg (by rw [e];decide),if_neg (by rw [e];decide),if_pos e]
theorem E4 {f:aP} (e:f.1=3):ec f=(f.1,f.2.1,0,[],f.2.2.2.2.1,dL,[],en,ek,[],ef,0,()):=by unfold ec;rw [if_neg (by rw [e];decide),if_neg (by rw [e];decide),if_pos e]
theorem aeX {f:aP} (e:f.1=3):qg (gz f)↔f=ec f:=by
 rw [Iw e,E4 e,uk]
 constructor
 ·rintro ⟨h2,h3,h4,h5,h6,h7,h8,h9,h10,h11⟩
  exact s8 rfl rfl h2 h3 rfl h5 h6 h7 h8 h9 h10 h11
 ·intro h
  exact ⟨congrArg (fun f:aP=>f.2.2.1) h,congrArg (fun f:aP=>f.2.2.2.1) h,rfl,congrArg (fun f:aP=>f.2.2.2.2.2.1) h,congrArg (fun f:aP=>f.2.2.2.2.2.2.1) h,congrArg (fun f:aP=>f.2.2.2.2.2.2.2.1) h,congrArg (fun f:aP=>f.2.2.2.2.2.2.2.2.1) h,congrArg (fun f:aP=>f.2.2.2.2.2.2.2.2.2.1) h,congrArg (fun f:aP=>f.2.2.2.2.2.2.2.2.2.2.1) h,congrArg (fun f:aP=>f.2.2.2.2.2.2.2.2.2.2.2.1) h⟩
theorem Ix {f:aP} (e:f.1=4):gz f=(f.1,f.2.1,f.2.2.1,f.2.2.2.1,[],f.2.2.2.2.2.1,f.2.2.2.2.2.2.1,f.2.2.2.2.2.2.2.1,ek,f.2.2.2.2.2.2.2.2.2.1,f.2.2.2.2.2.2.2.2.2.2.1,f.2.2.2.2.2.2.2.2.2.2.2.1,()):=by unfold gz;rw [if_neg (by rw [e];decide),if_neg (by rw [e];decide),if_neg (by rw [e];decide),if_pos e]
theorem E5 {f:aP} (e:f.1=4):ec f=(f.1,f.2.1,0,[],f.2.2.2.2.1,dL,[],en,f.2.2.2.2.2.2.2.2.1,[],ef,0,()):=by unfold ec;rw [if_neg (by rw [e];decide),if_neg (by rw [e];decide),if_neg (by rw [e];decide),if_pos e]
theorem aeY {f:aP} (e:f.1=4):qg (gz f)↔f=ec f:=by
 rw [Ix e,E5 e,uk]
 constructor
 ·rintro ⟨h2,h3,h4,h5,h6,h7,h8,h9,h10,h11⟩
  exact s8 rfl rfl h2 h3 rfl h5 h6 h7 rfl h9 h10 h11
 ·intro h
  exact ⟨congrArg (fun f:aP=>f.2.2.1) h,congrArg (fun f:aP=>f.2.2.2.1) h,rfl,congrArg (fun f:aP=>f.2.2.2.2.2.1) h,congrArg (fun f:aP=>f.2.2.2.2.2.2.1) h,congrArg (fun f:aP=>f.2.2.2.2.2.2.2.1) h,rfl,congrArg (fun f:aP=>f.2.2.2.2.2.2.2.2.2.1) h,congrArg (fun f:aP=>f.2.2.2.2.2.2.2.2.2.2.1) h,congrArg (fun f:aP=>f.2.2.2.2.2.2.2.2.2.2.2.1) h⟩
theorem Iy {f:aP} (e:f.1=5):gz f=(f.1,f.2.1,f.2.2.1,f.2.2.2.1,f.2.2.2.2.1,f.2.2.2.2.2.1,f.2.2.2.2.2.2.1,f.2.2.2.2.2.2.2.1,f.2.2.2.2.2.2.2.2.1,[],f.2.2.2.2.2.2.2.2.2.2.1,f.2.2.2.2.2.2.2.2.2.2.2.1,()):=by unfold gz;rw [if_neg (by rw [e];decide),if_neg (by rw [e];decide),if_neg (by rw [e];decide),if_neg (by rw [e];decide),if_pos e]
theorem E6 {f:aP} (e:f.1=5):ec f=(f.1,f.2.1,0,[],[],dL,[],en,ek,f.2.2.2.2.2.2.2.2.2.1,ef,0,()):=by unfold ec;rw [if_neg (by rw [e];decide),if_neg (by rw [e];decide),if_neg (by rw [e];decide),if_neg (by rw [e];decide),if_pos e]
theorem aeZ {f:aP} (e:f.1=5):qg (gz f)↔f=ec f:=by
 rw [Iy e,E6 e,uk]
 constructor
 ·rintro ⟨h2,h3,h4,h5,h6,h7,h8,h9,h10,h11⟩
  exact s8 rfl rfl h2 h3 h4 h5 h6 h7 h8 rfl h10 h11
 ·intro h
  exact ⟨congrArg (fun f:aP=>f.2.2.1) h,congrArg (fun f:aP=>f.2.2.2.1) h,congrArg (fun f:aP=>f.2.2.2.2.1) h,congrArg (fun f:aP=>f.2.2.2.2.2.1) h,congrArg (fun f:aP=>f.2.2.2.2.2.2.1) h,congrArg (fun f:aP=>f.2.2.2.2.2.2.2.1) h,congrArg (fun f:aP=>f.2.2.2.2.2.2.2.2.1) h,rfl,congrArg (fun f:aP=>f.2.2.2.2.2.2.2.2.2.2.1) h,congrArg (fun f:aP=>f.2.2.2.2.2.2.2.2.2.2.2.1) h⟩
theorem Iz {f:aP} (e:f.1=6):gz f=(f.1,f.2.1,f.2.2.1,f.2.2.2.1,f.2.2.2.2.1,f.2.2.2.2.2.1,f.2.2.2.2.2.2.1,f.2.2.2.2.2.2.2.1,f.2.2.2.2.2.2.2.2.1,f.2.2.2.2.2.2.2.2.2.1,f.2.2.2.2.2.2.2.2.2.2.1,0,()):=by unfold gz;rw [if_neg (by rw [e];decide),if_neg (by rw [e];decide),if_neg (by rw [e];decide),if_neg (by rw [e];decide),if_neg (by rw [e];decide),if_pos e]
theorem E7 {f:aP} (e:f.1=6):ec f=(f.1,f.2.1,0,[],[],dL,[],en,ek,[],ef,f.2.2.2.2.2.2.2.2.2.2.2.1,()):=by unfold ec;rw [if_neg (by rw [e];decide),if_neg (by rw [e];decide),if_neg (by rw [e];decide),if_neg (by rw [e];decide),if_neg (by rw [e];decide),if_pos e]
theorem ae0 {f:aP} (e:f.1=6):qg (gz f)↔f=ec f:=by
 rw [Iz e,E7 e,uk]
 constructor
 ·rintro ⟨h2,h3,h4,h5,h6,h7,h8,h9,h10,h11⟩
  exact s8 rfl rfl h2 h3 h4 h5 h6 h7 h8 h9 h10 rfl
 ·intro h
  exact ⟨congrArg (fun f:aP=>f.2.2.1) h,congrArg (fun f:aP=>f.2.2.2.1) h,congrArg (fun f:aP=>f.2.2.2.2.1) h,congrArg (fun f:aP=>f.2.2.2.2.2.1) h,congrArg (fun f:aP=>f.2.2.2.2.2.2.1) h,congrArg (fun f:aP=>f.2.2.2.2.2.2.2.1) h,congrArg (fun f:aP=>f.2.2.2.2.2.2.2.2.1) h,congrArg (fun f:aP=>f.2.2.2.2.2.2.2.2.2.1) h,congrArg (fun f:aP=>f.2.2.2.2.2.2.2.2.2.2.1) h,rfl⟩
theorem IA {f:aP} (e:f.1=7):gz f=(f.1,f.2.1,f.2.2.1,[],f.2.2.2.2.1,f.2.2.2.2.2.1,f.2.2.2.2.2.2.1,f.2.2.2.2.2.2.2.1,f.2.2.2.2.2.2.2.2.1,f.2.2.2.2.2.2.2.2.2.1,f.2.2.2.2.2.2.2.2.2.2.1,f.2.2.2.2.2.2.2.2.2.2.2.1,()):=by unfold gz;rw [if_neg (by rw [e];decide),if_neg (by rw [e];decide),if_neg (by rw [e];decide),if_neg (by rw [e];decide),if_neg (by rw [e];decide),if_neg (by rw [e];decide),if_pos e]
theorem E8 {f:aP} (e:f.1=7):ec f=(f.1,f.2.1,0,f.2.2.2.1,[],dL,[],en,ek,[],ef,0,()):=by unfold ec;rw [if_neg (by rw [e];decide),if_neg (by rw [e];decide),if_neg (by rw [e];decide),if_neg (by rw [e];decide),if_neg (by rw [e];decide),if_neg (by rw [e];decide),if_pos e]
theorem ae1 {f:aP} (e:f.1=7):qg (gz f)↔f=ec f:=by
 rw [IA e,E8 e,uk]
 constructor
 ·rintro ⟨h2,h3,h4,h5,h6,h7,h8,h9,h10,h11⟩
  exact s8 rfl rfl h2 rfl h4 h5 h6 h7 h8 h9 h10 h11
 ·intro h
  exact ⟨congrArg (fun f:aP=>f.2.2.1) h,rfl,congrArg (fun f:aP=>f.2.2.2.2.1) h,congrArg (fun f:aP=>f.2.2.2.2.2.1) h,congrArg (fun f:aP=>f.2.2.2.2.2.2.1) h,congrArg (fun f:aP=>f.2.2.2.2.2.2.2.1) h,congrArg (fun f:aP=>f.2.2.2.2.2.2.2.2.1) h,congrArg (fun f:aP=>f.2.2.2.2.2.2.2.2.2.1) h,congrArg (fun f:aP=>f.2.2.2.2.2.2.2.2.2.2.1) h,congrArg (fun f:aP=>f.2.2.2.2.2.2.2.2.2.2.2.1) h⟩
theorem IB {f:aP} (e:f.1=8):gz f=(f.1,f.2.1,f.2.2.1,[],f.2.2.2.2.1,dL,f.2.2.2.2.2.2.1,en,f.2.2.2.2.2.2.2.2.1,[],f.2.2.2.2.2.2.2.2.2.2.1,f.2.2.2.2.2.2.2.2.2.2.2.1,()):=by unfold gz;rw [if_neg (by rw [e];decide),if_neg (by rw [e];decide),if_neg (by rw [e];decide),if_neg (by rw [e];decide),if_neg (by rw [e];decide),if_neg (by rw [e];decide),if_neg (by rw [e];decide),if_pos e]
theorem E9 {f:aP} (e:f.1=8):ec f=(f.1,f.2.1,0,f.2.2.2.1,[],f.2.2.2.2.2.1,[],f.2.2.2.2.2.2.2.1,ek,f.2.2.2.2.2.2.2.2.2.1,ef,0,()):=by unfold ec;rw [if_neg (by rw [e];decide),if_neg (by rw [e];decide),if_neg (by rw [e];decide),if_neg (by rw [e];decide),if_neg (by rw [e];decide),if_neg (by rw [e];decide),if_neg (by rw [e];decide),if_pos e]
theorem ae2 {f:aP} (e:f.1=8):qg (gz f)↔f=ec f:=by
 rw [IB e,E9 e,uk]
 constructor
 ·rintro ⟨h2,h3,h4,h5,h6,h7,h8,h9,h10,h11⟩
  exact s8 rfl rfl h2 rfl h4 rfl h6 rfl h8 rfl h10 h11
 ·intro h
  exact ⟨congrArg (fun f:aP=>f.2.2.1) h,rfl,congrArg (fun f:aP=>f.2.2.2.2.1) h,rfl,congrArg (fun f:aP=>f.2.2.2.2.2.2.1) h,rfl,congrArg (fun f:aP=>f.2.2.2.2.2.2.2.2.1) h,rfl,congrArg (fun f:aP=>f.2.2.2.2.2.2.2.2.2.2.1) h,congrArg (fun f:aP=>f.2.2.2.2.2.2.2.2.2.2.2.1) h⟩
theorem IC {f:aP} (e:f.1=9):gz f=(f.1,f.2.1,f.2.2.1,f.2.2.2.1,f.2.2.2.2.1,f.2.2.2.2.2.1,f.2.2.2.2.2.2.1,f.2.2.2.2.2.2.2.1,f.2.2.2.2.2.2.2.2.1,f.2.2.2.2.2.2.2.2.2.1,ef,f.2.2.2.2.2.2.2.2.2.2.2.1,()):=by unfold gz;rw [if_neg (by rw [e];decide),if_neg (by rw [e];decide),if_neg (by rw [e];decide),if_neg (by rw [e];decide),if_neg (by rw [e];decide),if_neg (by rw [e];decide),if_neg (by rw [e];decide),if_neg (by rw [e];decide),if_pos e]
theorem E_ {f:aP} (e:f.1=9):ec f=(f.1,f.2.1,0,[],[],dL,[],en,ek,[],f.2.2.2.2.2.2.2.2.2.2.1,0,()):=by unfold ec;rw [if_neg (by rw [e];decide),if_neg (by rw [e];decide),if_neg (by rw [e];decide),if_neg (by rw [e];decide),if_neg (by rw [e];decide),if_neg (by rw [e];decide),if_neg (by rw [e];decide),if_neg (by rw [e];decide),if_pos e]
theorem ae3 {f:aP} (e:f.1=9):qg (gz f)↔f=ec f:=by
 rw [IC e,E_ e,uk]
 constructor
 ·rintro ⟨h2,h3,h4,h5,h6,h7,h8,h9,h10,h11⟩
  exact s8 rfl rfl h2 h3 h4 h5 h6 h7 h8 h9 rfl h11
 ·intro h
  exact ⟨congrArg (fun f:aP=>f.2.2.1) h,congrArg (fun f:aP=>f.2.2.2.1) h,congrArg (fun f:aP=>f.2.2.2.2.1) h,congrArg (fun f:aP=>f.2.2.2.2.2.1) h,congrArg (fun f:aP=>f.2.2.2.2.2.2.1) h,congrArg (fun f:aP=>f.2.2.2.2.2.2.2.1) h,congrArg (fun f:aP=>f.2.2.2.2.2.2.2.2.1) h,congrArg (fun f:aP=>f.2.2.2.2.2.2.2.2.2.1) h,rfl,congrArg (fun f:aP=>f.2.2.2.2.2.2.2.2.2.2.2.1) h⟩
theorem aeU {f:aP} (h:f.1=1∨f.1=2∨f.1=3∨f.1=4∨f.1=5∨f.1=6∨f.1=7∨f.1=8∨f.1=9):qg (gz f)↔f=ec f:=by
 rcases h with e|e|e|e|e|e|e|e|e
 ·exact aeV e
 ·exact aeW e
 ·exact aeX e
 ·exact aeY e
 ·exact aeZ e
 ·exact ae0 e
 ·exact ae1 e
 ·exact ae2 e
 ·exact ae3 e
theorem L8 {k:UInt8} {n:Int} {s:RS} {p:aP × RS} (h:kL k n s=some p):(k=1∨k=2∨k=3∨k=4∨k=5∨k=6∨k=7∨k=8∨k=9)∧p.1.1=k∧p.1.2.1=n∧p.1=ec p.1:=by
 unfold kL at h
 by_cases e:k=1
 ·rw [if_pos e] at h
  obtain rfl:=Option.some.inj h;exact ⟨.inl e,e.symm,rfl,Eq.symm (Eq.trans (E2 rfl) rfl)⟩
 rw [if_neg e] at h;clear e
 by_cases e:k=2
 ·rw [if_pos e] at h
  obtain ⟨x,_,rfl⟩:=Option.map_eq_some_iff.1 h;exact ⟨.inr (.inl e),e.symm,rfl,Eq.symm (Eq.trans (E3 rfl) rfl)⟩
 rw [if_neg e] at h;clear e
 by_cases e:k=3
 ·rw [if_pos e] at h
  obtain rfl:=Option.some.inj h;exact ⟨.inr (.inr (.inl e)),e.symm,rfl,Eq.symm (Eq.trans (E4 rfl) rfl)⟩
 rw [if_neg e] at h;clear e
 by_cases e:k=4
 ·rw [if_pos e] at h
  obtain ⟨x,_,rfl⟩:=Option.map_eq_some_iff.1 h;exact ⟨.inr (.inr (.inr (.inl e))),e.symm,rfl,Eq.symm (Eq.trans (E5 rfl) rfl)⟩
 rw [if_neg e] at h;clear e
 by_cases e:k=5
 ·rw [if_pos e] at h
  obtain ⟨x,_,rfl⟩:=Option.map_eq_some_iff.1 h;exact ⟨.inr (.inr (.inr (.inr (.inl e)))),e.symm,rfl,Eq.symm (Eq.trans (E6 rfl) rfl)⟩
 rw [if_neg e] at h;clear e
 by_cases e:k=6
 ·rw [if_pos e] at h
  obtain rfl:=Option.some.inj h;exact ⟨.inr (.inr (.inr (.inr (.inr (.inl e))))),e.symm,rfl,Eq.symm (Eq.trans (E7 rfl) rfl)⟩
 rw [if_neg e] at h;clear e
 by_cases e:k=7
 ·rw [if_pos e] at h
  obtain rfl:=Option.some.inj h;exact ⟨.inr (.inr (.inr (.inr (.inr (.inr (.inl e)))))),e.symm,rfl,Eq.symm (Eq.trans (E8 rfl) rfl)⟩
 rw [if_neg e] at h;clear e
 by_cases e:k=8
 ·rw [if_pos e] at h
  obtain ⟨x,_,h⟩:=Option.bind_eq_some_iff.1 h;obtain ⟨y,_,h⟩:=Option.bind_eq_some_iff.1 h;obtain ⟨z,_,rfl⟩:=Option.map_eq_some_iff.1 h;exact ⟨.inr (.inr (.inr (.inr (.inr (.inr (.inr (.inl e))))))),e.symm,rfl,Eq.symm (Eq.trans (E9 rfl) rfl)⟩
 rw [if_neg e] at h;clear e
 by_cases e:k=9
 ·rw [if_pos e] at h
  obtain ⟨x,_,rfl⟩:=Option.map_eq_some_iff.1 h;exact ⟨.inr (.inr (.inr (.inr (.inr (.inr (.inr (.inr (e)))))))),e.symm,rfl,Eq.symm (Eq.trans (E_ rfl) rfl)⟩
 rw [if_neg e] at h;clear e
 cases h
theorem O3 {x:aV} (h:fF x=true):lB c4 x:=by
 have h1:=q3 h;have h2:(cm x).length=(fY x).length+x.2.2.2.2.2.2.1.length:=by unfold cm;rw [List.length_append]
 rw [h2,DI] at h1;unfold lB c4
 omega
theorem ab6 (l:List aV):50*l.length≤(dS l).length:=by
 induction l with
 |nil=>simp
 |cons x l ih =>
  have h2:(cm x).length=(fY x).length+x.2.2.2.2.2.2.1.length:=by unfold cm;rw [List.length_append]
  rw [DI] at h2;have:dS (x::l)=bytesOf (cm x)++dS l:=by simp [dS]
  rw [this,List.length_append,List.length_cons,fI,Nat.mul_succ];omega
def zi (l:List aV):Prop:=l.length≤6000∧∀ y∈l,lB c4 y
def sP (x:dD):Prop:=x.2.2.2.1.length≤262144∧x.2.2.2.2.1.length≤262144
def KJ (x:eL):Prop:=x.1.length≤262144∧zi x.2.1
def KW (x:gv):Prop:=x.1.length≤262144∧x.2.1.length≤262144
def Er (p:fT):Prop:=(p.1.length≤40000∧∀ y∈p.1,y.length≤262144)∧p.2.1.length≤20000∧∀ y∈p.2.1,KW y
def Ep (n:eY):Prop:=n.2.1.length≤262144∧n.2.2.1.length≤262144∧n.2.2.2.1.length≤20000∧∀ y∈n.2.2.2.1,KJ y
theorem Pw {b:List UInt8} {l:List aV} (hb:b.length≤262144) (h:yP b=some l):zi l:=by
 obtain ⟨h1,h2⟩:=(JP (by omega)).1 h;have h3:=ab6 l;have h4:(dc l).length=8+(dS l).length:=by unfold dc;rw [List.length_append,ga]
 rw [h2] at h4;exact ⟨by omega,fun y hy=>O3 (wM h1.1 y hy)⟩
theorem DM {x:dD} (h:dR x=true):sP x:=by
 obtain ⟨h1,h2⟩:=vc.1 h;have h3:=Ba.1 h1;exact ⟨by omega,by omega⟩
theorem PY {α:Type} {one:RS→Option (α × RS)} {Q:α→Prop} {B:Nat} (ho:∀ s q,s.rest.length≤B→one s=some q→Q q.1) (hlen:∀ s q,one s=some q→q.2.rest.length≤s.rest.length) {s:RS} (hs:s.rest.length≤B):∀ {n:Nat} {p:List α × RS},si one n s=some p→∀ y∈p.1,Q y
 |0,p,h=>by cases h;intro y hy;cases hy
 |n+1,p,h=>by
  rw [si] at h;obtain ⟨q,hq,h⟩:=Option.bind_eq_some_iff.1 h
  split at h
  ·obtain ⟨x,hx,rfl⟩:=Option.map_eq_some_iff.1 h
   intro y hy
   rcases List.mem_append.1 hy with hy|hy
   ·exact PY ho hlen hs hq y hy
   ·obtain rfl:=List.mem_singleton.1 hy
    exact ho _ _ (Nat.le_trans (JX hlen hq) hs) hx
  ·cases h
theorem acB :∀ (s:RS) (q:List UInt8 × RS),D1 s=some q→q.2.rest.length≤s.rest.length:=fun s q h=>by
 obtain rfl:=Option.some.inj h;exact RS.pI _ _
theorem acS :∀ (s:RS) (q:gv × RS),D3 s=some q→q.2.rest.length≤s.rest.length:=fun s q h=>by
 obtain rfl:=Option.some.inj h;exact Nat.le_trans (RS.pI _ _) (RS.pI _ _)
theorem JL {α:Type} {one:RS→Option (α × RS)} {Q:α→Prop} {most:Int} (hm:0≤most) (ho:∀ s q,s.rest.length≤262144→one s=some q→Q q.1) (hlen:∀ s q,one s=some q→q.2.rest.length≤s.rest.length) {s:RS} (hs:s.rest.length≤262144) {p:List α × RS} (h:wU one most s=some p):((p.1.length:Int)≤most∧∀ y∈p.1,Q y)∧p.2.rest.length≤s.rest.length:=by
 unfold wU at h;have h1:=RS.RX most s hm;have h2:=RS.Lt most s;refine ⟨⟨by rw [PZ h];omega,PY ho hlen (Nat.le_trans h2 hs) h⟩,Nat.le_trans (JX hlen h) h2⟩
theorem Ze {s:RS} (hs:s.rest.length≤262144) {p:eY × RS} (h:AR s=some p):Ep p.1:=by
 unfold AR at h;obtain ⟨q,hq,rfl⟩:=Option.map_eq_some_iff.1 h;have h1:=RS.Lt 255 s;have h2:=RS.pI c5 (s.count 255).2;have h3:=RS.rG c5 (s.count 255).2;have h4:=RS.pI c5 ((s.count 255).2.bytes c5).2;have h5:=RS.rG c5 ((s.count 255).2.bytes c5).2;obtain ⟨⟨h6,h7⟩,_⟩:=JL (Q:=KJ) (by decide) (fun s q hs h=>by
  obtain ⟨l,hl,rfl⟩:=Option.map_eq_some_iff.1 h;have w1:=RS.rG c5 s;have w2:=RS.pI c5 s;have w3:=RS.rG c5 (s.bytes c5).2;exact ⟨by show (s.bytes c5).1.length≤_;omega,Pw (by omega) hl⟩) Yk (by omega) hq
 exact ⟨by show ((s.count 255).2.bytes c5).1.length≤_;omega,by show (((s.count 255).2.bytes c5).2.bytes c5).1.length≤_;omega,by show q.1.length≤_;omega,h7⟩
theorem aaa {s:RS} (hs:s.rest.length≤262144) {p:fT × RS} (h:A4 s=some p):Er p.1∧p.2.rest.length≤s.rest.length:=by
 unfold A4 at h;obtain ⟨a,ha,h⟩:=Option.bind_eq_some_iff.1 h;obtain ⟨b,hb,rfl⟩:=Option.map_eq_some_iff.1 h;obtain ⟨⟨h1,h2⟩,h3⟩:=JL (Q:=fun y:List UInt8=>y.length≤262144) (by decide) (fun s q hs h=>by
  obtain rfl:=Option.some.inj h;exact Nat.le_trans (RS.rG _ _) hs) acB hs ha
 obtain ⟨⟨h4,h5⟩,h6⟩:=JL (Q:=KW) (by decide) (fun s q hs h=>by
  obtain rfl:=Option.some.inj h;exact ⟨Nat.le_trans (RS.rG _ _) hs,Nat.le_trans (RS.rG _ _) (Nat.le_trans (RS.pI _ _) hs)⟩) acS (by omega) hb
 exact ⟨⟨⟨by show a.1.length≤_;omega,h2⟩,by show b.1.length≤_;omega,h5⟩,by show b.2.rest.length≤_;omega⟩
def kD (f:aP):Prop:=jD c4 f∧((f.2.2.2.2.2.2.2.2.1.2.1.length≤1000000000000∧f.2.2.2.2.2.2.2.2.1.2.2.1.length≤1000000000000)∧(f.2.2.2.2.2.2.2.2.1.2.2.2.1.length≤20000∧∀ y∈f.2.2.2.2.2.2.2.2.1.2.2.2.1,y.2.1.length≤10000))∧f.2.2.2.2.2.2.2.1.2.1.length≤1000000000∧f.2.2.2.2.2.2.2.2.2.1.length≤20000
theorem qb {f:aP} (h3:f.2.2.2.1.length≤262144) (h4:f.2.2.2.2.1.length≤262144) (h5:sP f.2.2.2.2.2.1) (h6:f.2.2.2.2.2.2.1.length≤262144) (h7:Er f.2.2.2.2.2.2.2.1) (h8:Ep f.2.2.2.2.2.2.2.2.1) (h9:zi f.2.2.2.2.2.2.2.2.2.1) (h10:sP f.2.2.2.2.2.2.2.2.2.2.1.1∧sP f.2.2.2.2.2.2.2.2.2.2.1.2.1):kD f:=by
 have hb:262144≤c4:=by decide
 have pU:∀ {l:List aV},zi l→l.length≤c4∧∀ y∈l,lB c4 y:=fun h=>⟨Nat.le_trans h.1 (by decide),h.2⟩;exact ⟨⟨by omega,by omega,Nat.le_trans h5.1 hb,Nat.le_trans h5.2 hb,by omega,⟨Nat.le_trans h7.1.1 (by decide),fun y hy=>Nat.le_trans (h7.1.2 y hy) hb⟩,⟨Nat.le_trans h7.2.1 (by decide),fun y hy=>⟨Nat.le_trans (h7.2.2 y hy).1 hb,Nat.le_trans (h7.2.2 y hy).2 hb⟩⟩,Nat.le_trans h8.1 hb,Nat.le_trans h8.2.1 hb,⟨Nat.le_trans h8.2.2.1 (by decide),fun y hy=>⟨Nat.le_trans (h8.2.2.2 y hy).1 hb,pU (h8.2.2.2 y hy).2⟩⟩,pU h9,Nat.le_trans h10.1.1 hb,Nat.le_trans h10.1.2 hb,Nat.le_trans h10.2.1 hb,Nat.le_trans h10.2.2 hb⟩,
  ⟨⟨Nat.le_trans h8.1 (by decide),Nat.le_trans h8.2.1 (by decide)⟩,h8.2.2.1,fun y hy=>Nat.le_trans (h8.2.2.2 y hy).2.1 (by decide)⟩,Nat.le_trans h7.2.1 (by decide),Nat.le_trans h9.1 (by decide)⟩
theorem qd:sP dL:=⟨by decide,by decide⟩
theorem ru:Er en:=⟨⟨by decide,fun _ h=>by cases h⟩,by decide,fun _ h=>by cases h⟩
theorem rq:Ep ek:=⟨by decide,by decide,by decide,fun _ h=>by cases h⟩
theorem sJ:zi []:=⟨by decide,fun _ h=>by cases h⟩
theorem rp:sP ef.1∧sP ef.2.1:=⟨qd,qd⟩
theorem SP {x:gh} (h:k6 x=true):sP x.1∧sP x.2.1:=by
 obtain ⟨h1,h2,_⟩:=xY.1 h;exact ⟨DM h1,DM h2⟩
theorem Tz {k:UInt8} {n:Int} {s:RS} (hs:s.rest.length≤262144) {p:aP × RS} (h:kL k n s=some p):kD p.1:=by
 unfold kL at h;have hz:([]:List UInt8).length≤262144:=by decide
 have w1:=RS.rG c5 s;have w2:=RS.pI c5 s;have w3:=RS.rG c5 (s.bytes c5).2;have aiG:=RS.pI c5 (s.bytes c5).2;have w0:(s.bytes c5).1.length≤262144:=by omega
 by_cases e:k=1
 ·rw [if_pos e] at h
  obtain rfl:=Option.some.inj h;exact qb hz hz qd hz ru rq sJ rp
 rw [if_neg e] at h;clear e
 by_cases e:k=2
 ·rw [if_pos e] at h
  obtain ⟨x,hx,rfl⟩:=Option.map_eq_some_iff.1 h;obtain ⟨y,hy,rfl⟩:=Option.map_eq_some_iff.1 hx;exact qb hz hz (DM (A_.1 hy).1) (show ((s.bytes c5).2.bytes c5).1.length≤_ by omega) ru rq sJ rp
 rw [if_neg e] at h;clear e
 by_cases e:k=3
 ·rw [if_pos e] at h
  obtain rfl:=Option.some.inj h;exact qb hz w0 qd hz ru rq sJ rp
 rw [if_neg e] at h;clear e
 by_cases e:k=4
 ·rw [if_pos e] at h
  obtain ⟨x,hx,rfl⟩:=Option.map_eq_some_iff.1 h;exact qb hz w0 qd hz ru (Ze (by omega) hx) sJ rp
 rw [if_neg e] at h;clear e
 by_cases e:k=5
 ·rw [if_pos e] at h
  obtain ⟨x,hx,rfl⟩:=Option.map_eq_some_iff.1 h;exact qb hz hz qd hz ru rq ⟨(show 1≤6000 by decide),fun y hy=>by obtain rfl:=List.mem_singleton.1 hy;exact O3 (OZ.1 hx).1⟩ rp
 rw [if_neg e] at h;clear e
 by_cases e:k=6
 ·rw [if_pos e] at h
  obtain rfl:=Option.some.inj h;exact qb hz hz qd hz ru rq sJ rp
 rw [if_neg e] at h;clear e
 by_cases e:k=7
 ·rw [if_pos e] at h
  obtain rfl:=Option.some.inj h;exact qb w0 hz qd hz ru rq sJ rp
 rw [if_neg e] at h;clear e
 by_cases e:k=8
 ·rw [if_pos e] at h
  obtain ⟨x,hx,h⟩:=Option.bind_eq_some_iff.1 h;obtain ⟨y,hy,h⟩:=Option.bind_eq_some_iff.1 h;obtain ⟨z,pV,rfl⟩:=Option.map_eq_some_iff.1 h;obtain ⟨bC,b8,rfl⟩:=Option.map_eq_some_iff.1 hx;obtain ⟨v1,v2⟩:=aaa (s:=((s.bytes c5).2.bytes c5).2) (by omega) hy;obtain ⟨l,hl,rfl⟩:=Option.map_eq_some_iff.1 pV;have v3:=RS.rG c5 y.2;exact qb w0 hz (DM (A_.1 b8).1) hz v1 rq (Pw (by omega) hl) rp
 rw [if_neg e] at h;clear e
 by_cases e:k=9
 ·rw [if_pos e] at h
  obtain ⟨x,hx,rfl⟩:=Option.map_eq_some_iff.1 h;obtain ⟨y,hy,rfl⟩:=Option.map_eq_some_iff.1 hx;exact qb hz hz qd hz ru rq sJ (SP (LI.1 hy).1)
 rw [if_neg e] at h;clear e
 cases h
theorem TD {b:List UInt8} (hb:b.length≤262144) {p:aP × RS} (h:oa b=some p):kD p.1:=by
 unfold oa at h;have h1:=RS.Lg ⟨true,b⟩;have h2:=RS.On (RS.mk true b).byte.2;simp only at h1 h2;exact Tz (by omega) h
end Go.Sp
