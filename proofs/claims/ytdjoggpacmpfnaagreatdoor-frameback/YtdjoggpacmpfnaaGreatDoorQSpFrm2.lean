/- Texts of this proof. -/
import Derived.Test.YtdjoggpacmpfnaaGreatDoorQSpFrm
namespace Go.Sp
theorem frm_ext {f g:FrmT} (h0:f.1=g.1) (h1:f.2.1=g.2.1) (h2:f.2.2.1=g.2.2.1) (h3:f.2.2.2.1=g.2.2.2.1) (h4:f.2.2.2.2.1=g.2.2.2.2.1) (h5:f.2.2.2.2.2.1=g.2.2.2.2.2.1) (h6:f.2.2.2.2.2.2.1=g.2.2.2.2.2.2.1) (h7:f.2.2.2.2.2.2.2.1=g.2.2.2.2.2.2.2.1) (h8:f.2.2.2.2.2.2.2.2.1=g.2.2.2.2.2.2.2.2.1) (h9:f.2.2.2.2.2.2.2.2.2.1=g.2.2.2.2.2.2.2.2.2.1) (h10:f.2.2.2.2.2.2.2.2.2.2.1=g.2.2.2.2.2.2.2.2.2.2.1) (h11:f.2.2.2.2.2.2.2.2.2.2.2.1=g.2.2.2.2.2.2.2.2.2.2.2.1):f=g:=by
 obtain ⟨a0,a1,a2,a3,a4,a5,a6,a7,a8,a9,a10,a11,⟨⟩⟩:=f;obtain ⟨b0,b1,b2,b3,b4,b5,b6,b7,b8,b9,b10,b11,⟨⟩⟩:=g;simp only at h0 h1 h2 h3 h4 h5 h6 h7 h8 h9 h10 h11;subst h0 h1 h2 h3 h4 h5 h6 h7 h8 h9 h10 h11
 rfl
def lessF (f:FrmT):FrmT:=if f.1=1 then (f.1,f.2.1,0,f.2.2.2.1,f.2.2.2.2.1,f.2.2.2.2.2.1,f.2.2.2.2.2.2.1,f.2.2.2.2.2.2.2.1,f.2.2.2.2.2.2.2.2.1,f.2.2.2.2.2.2.2.2.2.1,f.2.2.2.2.2.2.2.2.2.2.1,f.2.2.2.2.2.2.2.2.2.2.2.1,()) else if f.1=2 then (f.1,f.2.1,f.2.2.1,f.2.2.2.1,f.2.2.2.2.1,rootZ,[],f.2.2.2.2.2.2.2.1,f.2.2.2.2.2.2.2.2.1,f.2.2.2.2.2.2.2.2.2.1,f.2.2.2.2.2.2.2.2.2.2.1,f.2.2.2.2.2.2.2.2.2.2.2.1,()) else if f.1=3 then (f.1,f.2.1,f.2.2.1,f.2.2.2.1,[],f.2.2.2.2.2.1,f.2.2.2.2.2.2.1,f.2.2.2.2.2.2.2.1,f.2.2.2.2.2.2.2.2.1,f.2.2.2.2.2.2.2.2.2.1,f.2.2.2.2.2.2.2.2.2.2.1,f.2.2.2.2.2.2.2.2.2.2.2.1,()) else if f.1=4 then (f.1,f.2.1,f.2.2.1,f.2.2.2.1,[],f.2.2.2.2.2.1,f.2.2.2.2.2.2.1,f.2.2.2.2.2.2.2.1,nodeZ,f.2.2.2.2.2.2.2.2.2.1,f.2.2.2.2.2.2.2.2.2.2.1,f.2.2.2.2.2.2.2.2.2.2.2.1,()) else if f.1=5 then (f.1,f.2.1,f.2.2.1,f.2.2.2.1,f.2.2.2.2.1,f.2.2.2.2.2.1,f.2.2.2.2.2.2.1,f.2.2.2.2.2.2.2.1,f.2.2.2.2.2.2.2.2.1,[],f.2.2.2.2.2.2.2.2.2.2.1,f.2.2.2.2.2.2.2.2.2.2.2.1,()) else if f.1=6 then (f.1,f.2.1,f.2.2.1,f.2.2.2.1,f.2.2.2.2.1,f.2.2.2.2.2.1,f.2.2.2.2.2.2.1,f.2.2.2.2.2.2.2.1,f.2.2.2.2.2.2.2.2.1,f.2.2.2.2.2.2.2.2.2.1,f.2.2.2.2.2.2.2.2.2.2.1,0,()) else if f.1=7 then (f.1,f.2.1,f.2.2.1,[],f.2.2.2.2.1,f.2.2.2.2.2.1,f.2.2.2.2.2.2.1,f.2.2.2.2.2.2.2.1,f.2.2.2.2.2.2.2.2.1,f.2.2.2.2.2.2.2.2.2.1,f.2.2.2.2.2.2.2.2.2.2.1,f.2.2.2.2.2.2.2.2.2.2.2.1,()) else if f.1=8 then (f.1,f.2.1,f.2.2.1,[],f.2.2.2.2.1,rootZ,f.2.2.2.2.2.2.1,prfZ,f.2.2.2.2.2.2.2.2.1,[],f.2.2.2.2.2.2.2.2.2.2.1,f.2.2.2.2.2.2.2.2.2.2.2.1,()) else if f.1=9 then (f.1,f.2.1,f.2.2.1,f.2.2.2.1,f.2.2.2.2.1,f.2.2.2.2.2.1,f.2.2.2.2.2.2.1,f.2.2.2.2.2.2.2.1,f.2.2.2.2.2.2.2.2.1,f.2.2.2.2.2.2.2.2.2.1,evdZ,f.2.2.2.2.2.2.2.2.2.2.2.1,()) else f
def zeroF (f:FrmT):Prop:=f.2.2.1=0∧f.2.2.2.1=[]∧f.2.2.2.2.1=[]∧(∀ x∈[f.2.2.2.2.2.1,f.2.2.2.2.2.2.2.2.2.2.1.1,f.2.2.2.2.2.2.2.2.2.2.1.2.1],x=rootZ)∧f.2.2.2.2.2.2.1.length+f.2.2.2.2.2.2.2.2.2.1.length+f.2.2.2.2.2.2.2.1.1.length+f.2.2.2.2.2.2.2.1.2.1.length=0∧f.2.2.2.2.2.2.2.2.1.1=0∧f.2.2.2.2.2.2.2.2.1.2.1.length+f.2.2.2.2.2.2.2.2.1.2.2.1.length+f.2.2.2.2.2.2.2.2.1.2.2.2.1.length=0∧f.2.2.2.2.2.2.2.2.2.2.2.1=0
theorem zeroF_iff {f:FrmT}:zeroF f↔f.2.2.1=0∧f.2.2.2.1=[]∧f.2.2.2.2.1=[]∧f.2.2.2.2.2.1=rootZ∧f.2.2.2.2.2.2.1=[]∧f.2.2.2.2.2.2.2.1=prfZ∧f.2.2.2.2.2.2.2.2.1=nodeZ∧f.2.2.2.2.2.2.2.2.2.1=[]∧f.2.2.2.2.2.2.2.2.2.2.1=evdZ∧f.2.2.2.2.2.2.2.2.2.2.2.1=0:=by
 obtain ⟨a0,a1,a2,a3,a4,a5,a6,⟨s,t,⟨⟩⟩,⟨n,l,r,v,⟨⟩⟩,a9,⟨x,y,⟨⟩⟩,a11,⟨⟩⟩:=f;unfold zeroF;simp only [List.mem_cons,List.not_mem_nil,or_false,forall_eq_or_imp,forall_eq]
 constructor
 ·rintro ⟨h2,h3,h4,⟨h5,h6,h7⟩,h8,h9,h10,h11⟩
  have e1:a6=[]:=List.length_eq_zero_iff.1 (by omega);have e2:a9=[]:=List.length_eq_zero_iff.1 (by omega);have e3:s=[]:=List.length_eq_zero_iff.1 (by omega);have e4:t=[]:=List.length_eq_zero_iff.1 (by omega);have e5:l=[]:=List.length_eq_zero_iff.1 (by omega);have e6:r=[]:=List.length_eq_zero_iff.1 (by omega);have e7:v=[]:=List.length_eq_zero_iff.1 (by omega);subst h2 h3 h4 h5 h6 h7 h9 h11 e1 e2 e3 e4 e5 e6 e7;exact ⟨rfl,rfl,rfl,rfl,rfl,rfl,rfl,rfl,rfl,rfl⟩
 ·rintro ⟨h2,h3,h4,h5,h6,h7,h8,h9,h10,h11⟩
  unfold prfZ at h7;unfold nodeZ at h8;unfold evdZ at h10
  injection h7 with h7 u7;injection u7 with u7 _
  injection h8 with h8 u8;injection u8 with u8 v8;injection v8 with v8 w8;injection w8 with w8 _
  injection h10 with h10 u10;injection u10 with u10 _
  subst h2 h3 h4 h5 h6 h7 u7 h8 u8 v8 w8 h9 h10 u10 h11;exact ⟨rfl,rfl,rfl,⟨rfl,rfl,rfl⟩,rfl,rfl,rfl,rfl⟩
theorem lessF_1 {f:FrmT} (e:f.1=1):lessF f=(f.1,f.2.1,0,f.2.2.2.1,f.2.2.2.2.1,f.2.2.2.2.2.1,f.2.2.2.2.2.2.1,f.2.2.2.2.2.2.2.1,f.2.2.2.2.2.2.2.2.1,f.2.2.2.2.2.2.2.2.2.1,f.2.2.2.2.2.2.2.2.2.2.1,f.2.2.2.2.2.2.2.2.2.2.2.1,()):=by unfold lessF;rw [if_pos e]
theorem bareF_1 {f:FrmT} (e:f.1=1):bareF f=(f.1,f.2.1,f.2.2.1,[],[],rootZ,[],prfZ,nodeZ,[],evdZ,0,()):=by unfold bareF;rw [if_pos e]
theorem zero_less_1 {f:FrmT} (e:f.1=1):zeroF (lessF f)↔f=bareF f:=by
 rw [lessF_1 e,bareF_1 e,zeroF_iff]
 constructor
 ·rintro ⟨h2,h3,h4,h5,h6,h7,h8,h9,h10,h11⟩
  exact frm_ext rfl rfl rfl h3 h4 h5 h6 h7 h8 h9 h10 h11
 ·intro h
  exact ⟨rfl,congrArg (fun f:FrmT=>f.2.2.2.1) h,congrArg (fun f:FrmT=>f.2.2.2.2.1) h,congrArg (fun f:FrmT=>f.2.2.2.2.2.1) h,congrArg (fun f:FrmT=>f.2.2.2.2.2.2.1) h,congrArg (fun f:FrmT=>f.2.2.2.2.2.2.2.1) h,congrArg (fun f:FrmT=>f.2.2.2.2.2.2.2.2.1) h,congrArg (fun f:FrmT=>f.2.2.2.2.2.2.2.2.2.1) h,congrArg (fun f:FrmT=>f.2.2.2.2.2.2.2.2.2.2.1) h,congrArg (fun f:FrmT=>f.2.2.2.2.2.2.2.2.2.2.2.1) h⟩
theorem lessF_2 {f:FrmT} (e:f.1=2):lessF f=(f.1,f.2.1,f.2.2.1,f.2.2.2.1,f.2.2.2.2.1,rootZ,[],f.2.2.2.2.2.2.2.1,f.2.2.2.2.2.2.2.2.1,f.2.2.2.2.2.2.2.2.2.1,f.2.2.2.2.2.2.2.2.2.2.1,f.2.2.2.2.2.2.2.2.2.2.2.1,()):=by unfold lessF;rw [if_neg (by rw [e];decide),if_pos e]
theorem bareF_2 {f:FrmT} (e:f.1=2):bareF f=(f.1,f.2.1,0,[],[],f.2.2.2.2.2.1,f.2.2.2.2.2.2.1,prfZ,nodeZ,[],evdZ,0,()):=by unfold bareF;rw [if_neg (by rw [e];decide),if_pos e]
theorem zero_less_2 {f:FrmT} (e:f.1=2):zeroF (lessF f)↔f=bareF f:=by
 rw [lessF_2 e,bareF_2 e,zeroF_iff]
 constructor
 ·rintro ⟨h2,h3,h4,h5,h6,h7,h8,h9,h10,h11⟩
  exact frm_ext rfl rfl h2 h3 h4 rfl rfl h7 h8 h9 h10 h11
 ·intro h
  exact ⟨congrArg (fun f:FrmT=>f.2.2.1) h,congrArg (fun f:FrmT=>f.2.2.2.1) h,congrArg (fun f:FrmT=>f.2.2.2.2.1) h,rfl,rfl,congrArg (fun f:FrmT=>f.2.2.2.2.2.2.2.1) h,congrArg (fun f:FrmT=>f.2.2.2.2.2.2.2.2.1) h,congrArg (fun f:FrmT=>f.2.2.2.2.2.2.2.2.2.1) h,congrArg (fun f:FrmT=>f.2.2.2.2.2.2.2.2.2.2.1) h,congrArg (fun f:FrmT=>f.2.2.2.2.2.2.2.2.2.2.2.1) h⟩
theorem lessF_3 {f:FrmT} (e:f.1=3):lessF f=(f.1,f.2.1,f.2.2.1,f.2.2.2.1,[],f.2.2.2.2.2.1,f.2.2.2.2.2.2.1,f.2.2.2.2.2.2.2.1,f.2.2.2.2.2.2.2.2.1,f.2.2.2.2.2.2.2.2.2.1,f.2.2.2.2.2.2.2.2.2.2.1,f.2.2.2.2.2.2.2.2.2.2.2.1,()):=by unfold lessF;rw [if_neg (by rw [e];decide),if_neg (by rw [e];decide),if_pos e]
theorem bareF_3 {f:FrmT} (e:f.1=3):bareF f=(f.1,f.2.1,0,[],f.2.2.2.2.1,rootZ,[],prfZ,nodeZ,[],evdZ,0,()):=by unfold bareF;rw [if_neg (by rw [e];decide),if_neg (by rw [e];decide),if_pos e]
theorem zero_less_3 {f:FrmT} (e:f.1=3):zeroF (lessF f)↔f=bareF f:=by
 rw [lessF_3 e,bareF_3 e,zeroF_iff]
 constructor
 ·rintro ⟨h2,h3,h4,h5,h6,h7,h8,h9,h10,h11⟩
  exact frm_ext rfl rfl h2 h3 rfl h5 h6 h7 h8 h9 h10 h11
 ·intro h
  exact ⟨congrArg (fun f:FrmT=>f.2.2.1) h,congrArg (fun f:FrmT=>f.2.2.2.1) h,rfl,congrArg (fun f:FrmT=>f.2.2.2.2.2.1) h,congrArg (fun f:FrmT=>f.2.2.2.2.2.2.1) h,congrArg (fun f:FrmT=>f.2.2.2.2.2.2.2.1) h,congrArg (fun f:FrmT=>f.2.2.2.2.2.2.2.2.1) h,congrArg (fun f:FrmT=>f.2.2.2.2.2.2.2.2.2.1) h,congrArg (fun f:FrmT=>f.2.2.2.2.2.2.2.2.2.2.1) h,congrArg (fun f:FrmT=>f.2.2.2.2.2.2.2.2.2.2.2.1) h⟩
theorem lessF_4 {f:FrmT} (e:f.1=4):lessF f=(f.1,f.2.1,f.2.2.1,f.2.2.2.1,[],f.2.2.2.2.2.1,f.2.2.2.2.2.2.1,f.2.2.2.2.2.2.2.1,nodeZ,f.2.2.2.2.2.2.2.2.2.1,f.2.2.2.2.2.2.2.2.2.2.1,f.2.2.2.2.2.2.2.2.2.2.2.1,()):=by unfold lessF;rw [if_neg (by rw [e];decide),if_neg (by rw [e];decide),if_neg (by rw [e];decide),if_pos e]
theorem bareF_4 {f:FrmT} (e:f.1=4):bareF f=(f.1,f.2.1,0,[],f.2.2.2.2.1,rootZ,[],prfZ,f.2.2.2.2.2.2.2.2.1,[],evdZ,0,()):=by unfold bareF;rw [if_neg (by rw [e];decide),if_neg (by rw [e];decide),if_neg (by rw [e];decide),if_pos e]
theorem zero_less_4 {f:FrmT} (e:f.1=4):zeroF (lessF f)↔f=bareF f:=by
 rw [lessF_4 e,bareF_4 e,zeroF_iff]
 constructor
 ·rintro ⟨h2,h3,h4,h5,h6,h7,h8,h9,h10,h11⟩
  exact frm_ext rfl rfl h2 h3 rfl h5 h6 h7 rfl h9 h10 h11
 ·intro h
  exact ⟨congrArg (fun f:FrmT=>f.2.2.1) h,congrArg (fun f:FrmT=>f.2.2.2.1) h,rfl,congrArg (fun f:FrmT=>f.2.2.2.2.2.1) h,congrArg (fun f:FrmT=>f.2.2.2.2.2.2.1) h,congrArg (fun f:FrmT=>f.2.2.2.2.2.2.2.1) h,rfl,congrArg (fun f:FrmT=>f.2.2.2.2.2.2.2.2.2.1) h,congrArg (fun f:FrmT=>f.2.2.2.2.2.2.2.2.2.2.1) h,congrArg (fun f:FrmT=>f.2.2.2.2.2.2.2.2.2.2.2.1) h⟩
theorem lessF_5 {f:FrmT} (e:f.1=5):lessF f=(f.1,f.2.1,f.2.2.1,f.2.2.2.1,f.2.2.2.2.1,f.2.2.2.2.2.1,f.2.2.2.2.2.2.1,f.2.2.2.2.2.2.2.1,f.2.2.2.2.2.2.2.2.1,[],f.2.2.2.2.2.2.2.2.2.2.1,f.2.2.2.2.2.2.2.2.2.2.2.1,()):=by unfold lessF;rw [if_neg (by rw [e];decide),if_neg (by rw [e];decide),if_neg (by rw [e];decide),if_neg (by rw [e];decide),if_pos e]
theorem bareF_5 {f:FrmT} (e:f.1=5):bareF f=(f.1,f.2.1,0,[],[],rootZ,[],prfZ,nodeZ,f.2.2.2.2.2.2.2.2.2.1,evdZ,0,()):=by unfold bareF;rw [if_neg (by rw [e];decide),if_neg (by rw [e];decide),if_neg (by rw [e];decide),if_neg (by rw [e];decide),if_pos e]
theorem zero_less_5 {f:FrmT} (e:f.1=5):zeroF (lessF f)↔f=bareF f:=by
 rw [lessF_5 e,bareF_5 e,zeroF_iff]
 constructor
 ·rintro ⟨h2,h3,h4,h5,h6,h7,h8,h9,h10,h11⟩
  exact frm_ext rfl rfl h2 h3 h4 h5 h6 h7 h8 rfl h10 h11
 ·intro h
  exact ⟨congrArg (fun f:FrmT=>f.2.2.1) h,congrArg (fun f:FrmT=>f.2.2.2.1) h,congrArg (fun f:FrmT=>f.2.2.2.2.1) h,congrArg (fun f:FrmT=>f.2.2.2.2.2.1) h,congrArg (fun f:FrmT=>f.2.2.2.2.2.2.1) h,congrArg (fun f:FrmT=>f.2.2.2.2.2.2.2.1) h,congrArg (fun f:FrmT=>f.2.2.2.2.2.2.2.2.1) h,rfl,congrArg (fun f:FrmT=>f.2.2.2.2.2.2.2.2.2.2.1) h,congrArg (fun f:FrmT=>f.2.2.2.2.2.2.2.2.2.2.2.1) h⟩
theorem lessF_6 {f:FrmT} (e:f.1=6):lessF f=(f.1,f.2.1,f.2.2.1,f.2.2.2.1,f.2.2.2.2.1,f.2.2.2.2.2.1,f.2.2.2.2.2.2.1,f.2.2.2.2.2.2.2.1,f.2.2.2.2.2.2.2.2.1,f.2.2.2.2.2.2.2.2.2.1,f.2.2.2.2.2.2.2.2.2.2.1,0,()):=by unfold lessF;rw [if_neg (by rw [e];decide),if_neg (by rw [e];decide),if_neg (by rw [e];decide),if_neg (by rw [e];decide),if_neg (by rw [e];decide),if_pos e]
theorem bareF_6 {f:FrmT} (e:f.1=6):bareF f=(f.1,f.2.1,0,[],[],rootZ,[],prfZ,nodeZ,[],evdZ,f.2.2.2.2.2.2.2.2.2.2.2.1,()):=by unfold bareF;rw [if_neg (by rw [e];decide),if_neg (by rw [e];decide),if_neg (by rw [e];decide),if_neg (by rw [e];decide),if_neg (by rw [e];decide),if_pos e]
theorem zero_less_6 {f:FrmT} (e:f.1=6):zeroF (lessF f)↔f=bareF f:=by
 rw [lessF_6 e,bareF_6 e,zeroF_iff]
 constructor
 ·rintro ⟨h2,h3,h4,h5,h6,h7,h8,h9,h10,h11⟩
  exact frm_ext rfl rfl h2 h3 h4 h5 h6 h7 h8 h9 h10 rfl
 ·intro h
  exact ⟨congrArg (fun f:FrmT=>f.2.2.1) h,congrArg (fun f:FrmT=>f.2.2.2.1) h,congrArg (fun f:FrmT=>f.2.2.2.2.1) h,congrArg (fun f:FrmT=>f.2.2.2.2.2.1) h,congrArg (fun f:FrmT=>f.2.2.2.2.2.2.1) h,congrArg (fun f:FrmT=>f.2.2.2.2.2.2.2.1) h,congrArg (fun f:FrmT=>f.2.2.2.2.2.2.2.2.1) h,congrArg (fun f:FrmT=>f.2.2.2.2.2.2.2.2.2.1) h,congrArg (fun f:FrmT=>f.2.2.2.2.2.2.2.2.2.2.1) h,rfl⟩
theorem lessF_7 {f:FrmT} (e:f.1=7):lessF f=(f.1,f.2.1,f.2.2.1,[],f.2.2.2.2.1,f.2.2.2.2.2.1,f.2.2.2.2.2.2.1,f.2.2.2.2.2.2.2.1,f.2.2.2.2.2.2.2.2.1,f.2.2.2.2.2.2.2.2.2.1,f.2.2.2.2.2.2.2.2.2.2.1,f.2.2.2.2.2.2.2.2.2.2.2.1,()):=by unfold lessF;rw [if_neg (by rw [e];decide),if_neg (by rw [e];decide),if_neg (by rw [e];decide),if_neg (by rw [e];decide),if_neg (by rw [e];decide),if_neg (by rw [e];decide),if_pos e]
theorem bareF_7 {f:FrmT} (e:f.1=7):bareF f=(f.1,f.2.1,0,f.2.2.2.1,[],rootZ,[],prfZ,nodeZ,[],evdZ,0,()):=by unfold bareF;rw [if_neg (by rw [e];decide),if_neg (by rw [e];decide),if_neg (by rw [e];decide),if_neg (by rw [e];decide),if_neg (by rw [e];decide),if_neg (by rw [e];decide),if_pos e]
theorem zero_less_7 {f:FrmT} (e:f.1=7):zeroF (lessF f)↔f=bareF f:=by
 rw [lessF_7 e,bareF_7 e,zeroF_iff]
 constructor
 ·rintro ⟨h2,h3,h4,h5,h6,h7,h8,h9,h10,h11⟩
  exact frm_ext rfl rfl h2 rfl h4 h5 h6 h7 h8 h9 h10 h11
 ·intro h
  exact ⟨congrArg (fun f:FrmT=>f.2.2.1) h,rfl,congrArg (fun f:FrmT=>f.2.2.2.2.1) h,congrArg (fun f:FrmT=>f.2.2.2.2.2.1) h,congrArg (fun f:FrmT=>f.2.2.2.2.2.2.1) h,congrArg (fun f:FrmT=>f.2.2.2.2.2.2.2.1) h,congrArg (fun f:FrmT=>f.2.2.2.2.2.2.2.2.1) h,congrArg (fun f:FrmT=>f.2.2.2.2.2.2.2.2.2.1) h,congrArg (fun f:FrmT=>f.2.2.2.2.2.2.2.2.2.2.1) h,congrArg (fun f:FrmT=>f.2.2.2.2.2.2.2.2.2.2.2.1) h⟩
theorem lessF_8 {f:FrmT} (e:f.1=8):lessF f=(f.1,f.2.1,f.2.2.1,[],f.2.2.2.2.1,rootZ,f.2.2.2.2.2.2.1,prfZ,f.2.2.2.2.2.2.2.2.1,[],f.2.2.2.2.2.2.2.2.2.2.1,f.2.2.2.2.2.2.2.2.2.2.2.1,()):=by unfold lessF;rw [if_neg (by rw [e];decide),if_neg (by rw [e];decide),if_neg (by rw [e];decide),if_neg (by rw [e];decide),if_neg (by rw [e];decide),if_neg (by rw [e];decide),if_neg (by rw [e];decide),if_pos e]
theorem bareF_8 {f:FrmT} (e:f.1=8):bareF f=(f.1,f.2.1,0,f.2.2.2.1,[],f.2.2.2.2.2.1,[],f.2.2.2.2.2.2.2.1,nodeZ,f.2.2.2.2.2.2.2.2.2.1,evdZ,0,()):=by unfold bareF;rw [if_neg (by rw [e];decide),if_neg (by rw [e];decide),if_neg (by rw [e];decide),if_neg (by rw [e];decide),if_neg (by rw [e];decide),if_neg (by rw [e];decide),if_neg (by rw [e];decide),if_pos e]
theorem zero_less_8 {f:FrmT} (e:f.1=8):zeroF (lessF f)↔f=bareF f:=by
 rw [lessF_8 e,bareF_8 e,zeroF_iff]
 constructor
 ·rintro ⟨h2,h3,h4,h5,h6,h7,h8,h9,h10,h11⟩
  exact frm_ext rfl rfl h2 rfl h4 rfl h6 rfl h8 rfl h10 h11
 ·intro h
  exact ⟨congrArg (fun f:FrmT=>f.2.2.1) h,rfl,congrArg (fun f:FrmT=>f.2.2.2.2.1) h,rfl,congrArg (fun f:FrmT=>f.2.2.2.2.2.2.1) h,rfl,congrArg (fun f:FrmT=>f.2.2.2.2.2.2.2.2.1) h,rfl,congrArg (fun f:FrmT=>f.2.2.2.2.2.2.2.2.2.2.1) h,congrArg (fun f:FrmT=>f.2.2.2.2.2.2.2.2.2.2.2.1) h⟩
theorem lessF_9 {f:FrmT} (e:f.1=9):lessF f=(f.1,f.2.1,f.2.2.1,f.2.2.2.1,f.2.2.2.2.1,f.2.2.2.2.2.1,f.2.2.2.2.2.2.1,f.2.2.2.2.2.2.2.1,f.2.2.2.2.2.2.2.2.1,f.2.2.2.2.2.2.2.2.2.1,evdZ,f.2.2.2.2.2.2.2.2.2.2.2.1,()):=by unfold lessF;rw [if_neg (by rw [e];decide),if_neg (by rw [e];decide),if_neg (by rw [e];decide),if_neg (by rw [e];decide),if_neg (by rw [e];decide),if_neg (by rw [e];decide),if_neg (by rw [e];decide),if_neg (by rw [e];decide),if_pos e]
theorem bareF_9 {f:FrmT} (e:f.1=9):bareF f=(f.1,f.2.1,0,[],[],rootZ,[],prfZ,nodeZ,[],f.2.2.2.2.2.2.2.2.2.2.1,0,()):=by unfold bareF;rw [if_neg (by rw [e];decide),if_neg (by rw [e];decide),if_neg (by rw [e];decide),if_neg (by rw [e];decide),if_neg (by rw [e];decide),if_neg (by rw [e];decide),if_neg (by rw [e];decide),if_neg (by rw [e];decide),if_pos e]
theorem zero_less_9 {f:FrmT} (e:f.1=9):zeroF (lessF f)↔f=bareF f:=by
 rw [lessF_9 e,bareF_9 e,zeroF_iff]
 constructor
 ·rintro ⟨h2,h3,h4,h5,h6,h7,h8,h9,h10,h11⟩
  exact frm_ext rfl rfl h2 h3 h4 h5 h6 h7 h8 h9 rfl h11
 ·intro h
  exact ⟨congrArg (fun f:FrmT=>f.2.2.1) h,congrArg (fun f:FrmT=>f.2.2.2.1) h,congrArg (fun f:FrmT=>f.2.2.2.2.1) h,congrArg (fun f:FrmT=>f.2.2.2.2.2.1) h,congrArg (fun f:FrmT=>f.2.2.2.2.2.2.1) h,congrArg (fun f:FrmT=>f.2.2.2.2.2.2.2.1) h,congrArg (fun f:FrmT=>f.2.2.2.2.2.2.2.2.1) h,congrArg (fun f:FrmT=>f.2.2.2.2.2.2.2.2.2.1) h,rfl,congrArg (fun f:FrmT=>f.2.2.2.2.2.2.2.2.2.2.2.1) h⟩
theorem zero_less {f:FrmT} (h:f.1=1∨f.1=2∨f.1=3∨f.1=4∨f.1=5∨f.1=6∨f.1=7∨f.1=8∨f.1=9):zeroF (lessF f)↔f=bareF f:=by
 rcases h with e|e|e|e|e|e|e|e|e
 ·exact zero_less_1 e
 ·exact zero_less_2 e
 ·exact zero_less_3 e
 ·exact zero_less_4 e
 ·exact zero_less_5 e
 ·exact zero_less_6 e
 ·exact zero_less_7 e
 ·exact zero_less_8 e
 ·exact zero_less_9 e
theorem frmIn_cases {k:UInt8} {n:Int} {s:RS} {p:FrmT × RS} (h:frmIn k n s=some p):(k=1∨k=2∨k=3∨k=4∨k=5∨k=6∨k=7∨k=8∨k=9)∧p.1.1=k∧p.1.2.1=n∧p.1=bareF p.1:=by
 unfold frmIn at h
 by_cases e:k=1
 ·rw [if_pos e] at h
  obtain rfl:=Option.some.inj h;exact ⟨.inl e,e.symm,rfl,Eq.symm (Eq.trans (bareF_1 rfl) rfl)⟩
 rw [if_neg e] at h;clear e
 by_cases e:k=2
 ·rw [if_pos e] at h
  obtain ⟨x,_,rfl⟩:=Option.map_eq_some_iff.1 h;exact ⟨.inr (.inl e),e.symm,rfl,Eq.symm (Eq.trans (bareF_2 rfl) rfl)⟩
 rw [if_neg e] at h;clear e
 by_cases e:k=3
 ·rw [if_pos e] at h
  obtain rfl:=Option.some.inj h;exact ⟨.inr (.inr (.inl e)),e.symm,rfl,Eq.symm (Eq.trans (bareF_3 rfl) rfl)⟩
 rw [if_neg e] at h;clear e
 by_cases e:k=4
 ·rw [if_pos e] at h
  obtain ⟨x,_,rfl⟩:=Option.map_eq_some_iff.1 h;exact ⟨.inr (.inr (.inr (.inl e))),e.symm,rfl,Eq.symm (Eq.trans (bareF_4 rfl) rfl)⟩
 rw [if_neg e] at h;clear e
 by_cases e:k=5
 ·rw [if_pos e] at h
  obtain ⟨x,_,rfl⟩:=Option.map_eq_some_iff.1 h;exact ⟨.inr (.inr (.inr (.inr (.inl e)))),e.symm,rfl,Eq.symm (Eq.trans (bareF_5 rfl) rfl)⟩
 rw [if_neg e] at h;clear e
 by_cases e:k=6
 ·rw [if_pos e] at h
  obtain rfl:=Option.some.inj h;exact ⟨.inr (.inr (.inr (.inr (.inr (.inl e))))),e.symm,rfl,Eq.symm (Eq.trans (bareF_6 rfl) rfl)⟩
 rw [if_neg e] at h;clear e
 by_cases e:k=7
 ·rw [if_pos e] at h
  obtain rfl:=Option.some.inj h;exact ⟨.inr (.inr (.inr (.inr (.inr (.inr (.inl e)))))),e.symm,rfl,Eq.symm (Eq.trans (bareF_7 rfl) rfl)⟩
 rw [if_neg e] at h;clear e
 by_cases e:k=8
 ·rw [if_pos e] at h
  obtain ⟨x,_,h⟩:=Option.bind_eq_some_iff.1 h;obtain ⟨y,_,h⟩:=Option.bind_eq_some_iff.1 h;obtain ⟨z,_,rfl⟩:=Option.map_eq_some_iff.1 h;exact ⟨.inr (.inr (.inr (.inr (.inr (.inr (.inr (.inl e))))))),e.symm,rfl,Eq.symm (Eq.trans (bareF_8 rfl) rfl)⟩
 rw [if_neg e] at h;clear e
 by_cases e:k=9
 ·rw [if_pos e] at h
  obtain ⟨x,_,rfl⟩:=Option.map_eq_some_iff.1 h;exact ⟨.inr (.inr (.inr (.inr (.inr (.inr (.inr (.inr (e)))))))),e.symm,rfl,Eq.symm (Eq.trans (bareF_9 rfl) rfl)⟩
 rw [if_neg e] at h;clear e
 cases h
theorem recOk_size {x:RecT} (h:recOk x=true):RecOk big x:=by
 have h1:=recB_le h;have h2:(recB x).length=(recText x).length+x.2.2.2.2.2.2.1.length:=by unfold recB;rw [List.length_append]
 rw [h2,recText_length] at h1;unfold RecOk big
 omega
theorem sRows_ge (l:List RecT):50*l.length≤(sRows l).length:=by
 induction l with
 |nil=>simp
 |cons x l ih =>
  have h2:(recB x).length=(recText x).length+x.2.2.2.2.2.2.1.length:=by unfold recB;rw [List.length_append]
  rw [recText_length] at h2;have:sRows (x::l)=bytesOf (recB x)++sRows l:=by simp [sRows]
  rw [this,List.length_append,List.length_cons,bytesOf_length,Nat.mul_succ];omega
def SetB (l:List RecT):Prop:=l.length≤6000∧∀ y∈l,RecOk big y
def RootB (x:RootT):Prop:=x.2.2.2.1.length≤262144∧x.2.2.2.2.1.length≤262144
def LeafB (x:LeafT):Prop:=x.1.length≤262144∧SetB x.2.1
def StubB (x:StubT):Prop:=x.1.length≤262144∧x.2.1.length≤262144
def PrfB (p:PrfT):Prop:=(p.1.length≤40000∧∀ y∈p.1,y.length≤262144)∧p.2.1.length≤20000∧∀ y∈p.2.1,StubB y
def NodeB (n:NodeT):Prop:=n.2.1.length≤262144∧n.2.2.1.length≤262144∧n.2.2.2.1.length≤20000∧∀ y∈n.2.2.2.1,LeafB y
theorem sGet_sizes {b:List UInt8} {l:List RecT} (hb:b.length≤262144) (h:sGet b=some l):SetB l:=by
 obtain ⟨h1,h2⟩:=(sGet_iff (by omega)).1 h;have h3:=sRows_ge l;have h4:(sB l).length=8+(sRows l).length:=by unfold sB;rw [List.length_append,be_length]
 rw [h2] at h4;exact ⟨by omega,fun y hy=>recOk_size (oneK_all h1.1 y hy)⟩
theorem rootOk_size {x:RootT} (h:rootOk x=true):RootB x:=by
 obtain ⟨h1,h2⟩:=rootOk_iff.1 h;have h3:=rootShape_iff.1 h1;exact ⟨by omega,by omega⟩
theorem someP_all {α:Type} {one:RS→Option (α × RS)} {Q:α→Prop} {B:Nat} (ho:∀ s q,s.rest.length≤B→one s=some q→Q q.1) (hlen:∀ s q,one s=some q→q.2.rest.length≤s.rest.length) {s:RS} (hs:s.rest.length≤B):∀ {n:Nat} {p:List α × RS},someP one n s=some p→∀ y∈p.1,Q y
 |0,p,h=>by cases h;intro y hy;cases hy
 |n+1,p,h=>by
  rw [someP] at h;obtain ⟨q,hq,h⟩:=Option.bind_eq_some_iff.1 h
  split at h
  ·obtain ⟨x,hx,rfl⟩:=Option.map_eq_some_iff.1 h
   intro y hy
   rcases List.mem_append.1 hy with hy|hy
   ·exact someP_all ho hlen hs hq y hy
   ·obtain rfl:=List.mem_singleton.1 hy
    exact ho _ _ (Nat.le_trans (someP_len hlen hq) hs) hx
  ·cases h
theorem sideP_len' :∀ (s:RS) (q:List UInt8 × RS),sideP s=some q→q.2.rest.length≤s.rest.length:=fun s q h=>by
 obtain rfl:=Option.some.inj h;exact RS.bytes_len _ _
theorem stubP_len' :∀ (s:RS) (q:StubT × RS),stubP s=some q→q.2.rest.length≤s.rest.length:=fun s q h=>by
 obtain rfl:=Option.some.inj h;exact Nat.le_trans (RS.bytes_len _ _) (RS.bytes_len _ _)
theorem rowM_size {α:Type} {one:RS→Option (α × RS)} {Q:α→Prop} {most:Int} (hm:0≤most) (ho:∀ s q,s.rest.length≤262144→one s=some q→Q q.1) (hlen:∀ s q,one s=some q→q.2.rest.length≤s.rest.length) {s:RS} (hs:s.rest.length≤262144) {p:List α × RS} (h:rowM one most s=some p):((p.1.length:Int)≤most∧∀ y∈p.1,Q y)∧p.2.rest.length≤s.rest.length:=by
 unfold rowM at h;have h1:=RS.count_bd most s hm;have h2:=RS.count_len most s;refine ⟨⟨by rw [someP_count h];omega,someP_all ho hlen (Nat.le_trans h2 hs) h⟩,Nat.le_trans (someP_len hlen h) h2⟩
theorem nodeP_size {s:RS} (hs:s.rest.length≤262144) {p:NodeT × RS} (h:nodeP s=some p):NodeB p.1:=by
 unfold nodeP at h;obtain ⟨q,hq,rfl⟩:=Option.map_eq_some_iff.1 h;have h1:=RS.count_len 255 s;have h2:=RS.bytes_len top64 (s.count 255).2;have h3:=RS.bytes_out top64 (s.count 255).2;have h4:=RS.bytes_len top64 ((s.count 255).2.bytes top64).2;have h5:=RS.bytes_out top64 ((s.count 255).2.bytes top64).2;obtain ⟨⟨h6,h7⟩,_⟩:=rowM_size (Q:=LeafB) (by decide) (fun s q hs h=>by
  obtain ⟨l,hl,rfl⟩:=Option.map_eq_some_iff.1 h;have w1:=RS.bytes_out top64 s;have w2:=RS.bytes_len top64 s;have w3:=RS.bytes_out top64 (s.bytes top64).2;exact ⟨by show (s.bytes top64).1.length≤_;omega,sGet_sizes (by omega) hl⟩) leafP_len (by omega) hq
 exact ⟨by show ((s.count 255).2.bytes top64).1.length≤_;omega,by show (((s.count 255).2.bytes top64).2.bytes top64).1.length≤_;omega,by show q.1.length≤_;omega,h7⟩
theorem prfP_size {s:RS} (hs:s.rest.length≤262144) {p:PrfT × RS} (h:prfP s=some p):PrfB p.1∧p.2.rest.length≤s.rest.length:=by
 unfold prfP at h;obtain ⟨a,ha,h⟩:=Option.bind_eq_some_iff.1 h;obtain ⟨b,hb,rfl⟩:=Option.map_eq_some_iff.1 h;obtain ⟨⟨h1,h2⟩,h3⟩:=rowM_size (Q:=fun y:List UInt8=>y.length≤262144) (by decide) (fun s q hs h=>by
  obtain rfl:=Option.some.inj h;exact Nat.le_trans (RS.bytes_out _ _) hs) sideP_len' hs ha
 obtain ⟨⟨h4,h5⟩,h6⟩:=rowM_size (Q:=StubB) (by decide) (fun s q hs h=>by
  obtain rfl:=Option.some.inj h;exact ⟨Nat.le_trans (RS.bytes_out _ _) hs,Nat.le_trans (RS.bytes_out _ _) (Nat.le_trans (RS.bytes_len _ _) hs)⟩) stubP_len' (by omega) hb
 exact ⟨⟨⟨by show a.1.length≤_;omega,h2⟩,by show b.1.length≤_;omega,h5⟩,by show b.2.rest.length≤_;omega⟩
def FrmSz (f:FrmT):Prop:=FrmOk big f∧((f.2.2.2.2.2.2.2.2.1.2.1.length≤1000000000000∧f.2.2.2.2.2.2.2.2.1.2.2.1.length≤1000000000000)∧(f.2.2.2.2.2.2.2.2.1.2.2.2.1.length≤20000∧∀ y∈f.2.2.2.2.2.2.2.2.1.2.2.2.1,y.2.1.length≤10000))∧f.2.2.2.2.2.2.2.1.2.1.length≤1000000000∧f.2.2.2.2.2.2.2.2.2.1.length≤20000
theorem sz_of {f:FrmT} (h3:f.2.2.2.1.length≤262144) (h4:f.2.2.2.2.1.length≤262144) (h5:RootB f.2.2.2.2.2.1) (h6:f.2.2.2.2.2.2.1.length≤262144) (h7:PrfB f.2.2.2.2.2.2.2.1) (h8:NodeB f.2.2.2.2.2.2.2.2.1) (h9:SetB f.2.2.2.2.2.2.2.2.2.1) (h10:RootB f.2.2.2.2.2.2.2.2.2.2.1.1∧RootB f.2.2.2.2.2.2.2.2.2.2.1.2.1):FrmSz f:=by
 have hb:262144≤big:=by decide
 have hset:∀ {l:List RecT},SetB l→l.length≤big∧∀ y∈l,RecOk big y:=fun h=>⟨Nat.le_trans h.1 (by decide),h.2⟩;exact ⟨⟨by omega,by omega,Nat.le_trans h5.1 hb,Nat.le_trans h5.2 hb,by omega,⟨Nat.le_trans h7.1.1 (by decide),fun y hy=>Nat.le_trans (h7.1.2 y hy) hb⟩,⟨Nat.le_trans h7.2.1 (by decide),fun y hy=>⟨Nat.le_trans (h7.2.2 y hy).1 hb,Nat.le_trans (h7.2.2 y hy).2 hb⟩⟩,Nat.le_trans h8.1 hb,Nat.le_trans h8.2.1 hb,⟨Nat.le_trans h8.2.2.1 (by decide),fun y hy=>⟨Nat.le_trans (h8.2.2.2 y hy).1 hb,hset (h8.2.2.2 y hy).2⟩⟩,hset h9,Nat.le_trans h10.1.1 hb,Nat.le_trans h10.1.2 hb,Nat.le_trans h10.2.1 hb,Nat.le_trans h10.2.2 hb⟩,
  ⟨⟨Nat.le_trans h8.1 (by decide),Nat.le_trans h8.2.1 (by decide)⟩,h8.2.2.1,fun y hy=>Nat.le_trans (h8.2.2.2 y hy).2.1 (by decide)⟩,Nat.le_trans h7.2.1 (by decide),Nat.le_trans h9.1 (by decide)⟩
theorem zRoot:RootB rootZ:=⟨by decide,by decide⟩
theorem zPrf:PrfB prfZ:=⟨⟨by decide,fun _ h=>by cases h⟩,by decide,fun _ h=>by cases h⟩
theorem zNode:NodeB nodeZ:=⟨by decide,by decide,by decide,fun _ h=>by cases h⟩
theorem zSet:SetB []:=⟨by decide,fun _ h=>by cases h⟩
theorem zEvd:RootB evdZ.1∧RootB evdZ.2.1:=⟨zRoot,zRoot⟩
theorem evdOk_size {x:EvdT} (h:evdOk x=true):RootB x.1∧RootB x.2.1:=by
 obtain ⟨h1,h2,_⟩:=evdOk_iff.1 h;exact ⟨rootOk_size h1,rootOk_size h2⟩
theorem frmIn_size {k:UInt8} {n:Int} {s:RS} (hs:s.rest.length≤262144) {p:FrmT × RS} (h:frmIn k n s=some p):FrmSz p.1:=by
 unfold frmIn at h;have hz:([]:List UInt8).length≤262144:=by decide
 have w1:=RS.bytes_out top64 s;have w2:=RS.bytes_len top64 s;have w3:=RS.bytes_out top64 (s.bytes top64).2;have w4:=RS.bytes_len top64 (s.bytes top64).2;have w0:(s.bytes top64).1.length≤262144:=by omega
 by_cases e:k=1
 ·rw [if_pos e] at h
  obtain rfl:=Option.some.inj h;exact sz_of hz hz zRoot hz zPrf zNode zSet zEvd
 rw [if_neg e] at h;clear e
 by_cases e:k=2
 ·rw [if_pos e] at h
  obtain ⟨x,hx,rfl⟩:=Option.map_eq_some_iff.1 h;obtain ⟨y,hy,rfl⟩:=Option.map_eq_some_iff.1 hx;exact sz_of hz hz (rootOk_size (rootGet_iff.1 hy).1) (show ((s.bytes top64).2.bytes top64).1.length≤_ by omega) zPrf zNode zSet zEvd
 rw [if_neg e] at h;clear e
 by_cases e:k=3
 ·rw [if_pos e] at h
  obtain rfl:=Option.some.inj h;exact sz_of hz w0 zRoot hz zPrf zNode zSet zEvd
 rw [if_neg e] at h;clear e
 by_cases e:k=4
 ·rw [if_pos e] at h
  obtain ⟨x,hx,rfl⟩:=Option.map_eq_some_iff.1 h;exact sz_of hz w0 zRoot hz zPrf (nodeP_size (by omega) hx) zSet zEvd
 rw [if_neg e] at h;clear e
 by_cases e:k=5
 ·rw [if_pos e] at h
  obtain ⟨x,hx,rfl⟩:=Option.map_eq_some_iff.1 h;exact sz_of hz hz zRoot hz zPrf zNode ⟨(show 1≤6000 by decide),fun y hy=>by obtain rfl:=List.mem_singleton.1 hy;exact recOk_size (recGet_iff.1 hx).1⟩ zEvd
 rw [if_neg e] at h;clear e
 by_cases e:k=6
 ·rw [if_pos e] at h
  obtain rfl:=Option.some.inj h;exact sz_of hz hz zRoot hz zPrf zNode zSet zEvd
 rw [if_neg e] at h;clear e
 by_cases e:k=7
 ·rw [if_pos e] at h
  obtain rfl:=Option.some.inj h;exact sz_of w0 hz zRoot hz zPrf zNode zSet zEvd
 rw [if_neg e] at h;clear e
 by_cases e:k=8
 ·rw [if_pos e] at h
  obtain ⟨x,hx,h⟩:=Option.bind_eq_some_iff.1 h;obtain ⟨y,hy,h⟩:=Option.bind_eq_some_iff.1 h;obtain ⟨z,hz2,rfl⟩:=Option.map_eq_some_iff.1 h;obtain ⟨x2,hx2,rfl⟩:=Option.map_eq_some_iff.1 hx;obtain ⟨v1,v2⟩:=prfP_size (s:=((s.bytes top64).2.bytes top64).2) (by omega) hy;obtain ⟨l,hl,rfl⟩:=Option.map_eq_some_iff.1 hz2;have v3:=RS.bytes_out top64 y.2;exact sz_of w0 hz (rootOk_size (rootGet_iff.1 hx2).1) hz v1 zNode (sGet_sizes (by omega) hl) zEvd
 rw [if_neg e] at h;clear e
 by_cases e:k=9
 ·rw [if_pos e] at h
  obtain ⟨x,hx,rfl⟩:=Option.map_eq_some_iff.1 h;obtain ⟨y,hy,rfl⟩:=Option.map_eq_some_iff.1 hx;exact sz_of hz hz zRoot hz zPrf zNode zSet (evdOk_size (evdGet_iff.1 hy).1)
 rw [if_neg e] at h;clear e
 cases h
theorem frmRd_size {b:List UInt8} (hb:b.length≤262144) {p:FrmT × RS} (h:frmRd b=some p):FrmSz p.1:=by
 unfold frmRd at h;have h1:=RS.byte_len ⟨true,b⟩;have h2:=RS.num_len (RS.mk true b).byte.2;simp only at h1 h2;exact frmIn_size (by omega) h
end Go.Sp
