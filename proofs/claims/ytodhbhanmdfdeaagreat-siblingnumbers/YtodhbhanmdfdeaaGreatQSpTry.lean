/- Texts of this proof. -/
import Derived.Test.YtodhbhanmdfdeaaGreatQSpGo
namespace Go.Sp
def LoadsAs (P:Program) (ty:TypeId) (cs:List Value) (v:Value):Prop:=∀ (w:World) (b:Nat),(∀ j u,cs[j]?=some u→w.cell? ⟨b,j,none⟩=some u)→(loadVar ty ⟨b,0,none⟩).run P w=.ok v w
theorem LoadsAs.flat {P:Program} {ty:TypeId} {v:Value} (h:flat1 P ty=true):LoadsAs P ty [v] v:=fun w b hc=>by
 simp [loadVar,run_isAgg_flat (flat1_flat h),hc 0 v rfl]
theorem LoadsAs.agg {P:Program} {ty:TypeId} {cs:List Value} (h:∀ w,(isAgg ty).run P w=.ok true w) (hs:(P.info? ty).map (·.size)=some cs.length):LoadsAs P ty cs (.agg cs.toArray):=fun w b hc=>by
 have hr:=run_loadCells_list (P:=P) w ⟨b,0,none⟩ cs fun j v hj=>by rw [add_lit,Nat.zero_add];exact hc j v hj
 simp [loadVar,h,run_sizeOf hs,hr]
section
variable {P:Program} {fn:Func} {n:Nat} {R:Ending→World→Prop} {k:List Item} {σ:List (Nat × Value)} {D:List Deferred} {g:Gr} {η ζ θ:List SProp} {f:FuncId}
theorem Holds.obj_cells {w:World} {b:Nat} {T:TypeId} {cs:List Value} (h:Holds w g (obj b T cs::η)):∀ j u,cs[j]?=some u→w.cell? ⟨b,j,none⟩=some u:=fun _ _ hj=>h.obj_cell hj
def DPost2 (P:Program) (g:Gr) (b1 b2:Nat) (t1 t2:TypeId) (R:Ending→World→Prop) (e:Ending) (u:FrameMode) (w:World):Prop :=
 (∃ v,e=.returned v)∧settle u=.returning∧∃ T1 T2 cs1 cs2 v1 v2 η,Holds w g (obj b1 T1 cs1::obj b2 T2 cs2::η)∧LoadsAs P t1 cs1 v1∧LoadsAs P t2 cs2 v2∧R (.returned (.tuple #[v1,v2])) w
theorem results_two {a:Act} {w:World} {s1 s2 b1 b2:Nat} {t1 t2 T1 T2:TypeId} {cs1 cs2:List Value} {v1 v2:Value} (hr:fn.results=#[.cell s1 t1,.cell s2 t2]) (hf:Fits a n σ) (hl1:look σ s1=some (.pointer (some ⟨b1,0,none⟩))) (hl2:look σ s2=some (.pointer (some ⟨b2,0,none⟩)))
  (hw:Holds w g (obj b1 T1 cs1::obj b2 T2 cs2::η)) (h1:LoadsAs P t1 cs1 v1) (h2:LoadsAs P t2 cs2 v2):(results fn a.tmps).run P w=.ok (.tuple #[v1,v2]) w:=by
 have e1:=h1 w b1 hw.obj_cells;have e2:=h2 w b2 (hw.drop).obj_cells;have l1:=hf.2 s1 _ hl1;have l2:=hf.2 s2 _ hl2
 simp [results,hr,Array.getD_eq_getD_getElem?,l1,l2,asAddr,e1,e2]
theorem leavesCell2 {a:Act} {w:World} {u:FrameMode} {s1 s2 b1 b2:Nat} {t1 t2:TypeId} {cap args:Array Value} (hr:fn.results=#[.cell s1 t1,.cell s2 t2]) (hf:Fits a n σ) (hl1:look σ s1=some (.pointer (some ⟨b1,0,none⟩))) (hl2:look σ s2=some (.pointer (some ⟨b2,0,none⟩)))
  (hu:u≠.run) (hc:callable P f=true) (hcall:CallsD P f (args++cap) u w (DPost2 P g b1 b2 t1 t2 R)):Lv P fn a.tmps R [⟨.fn (.func f) cap,args⟩] u w:=by
 refine Lv.of (leaves_cons hu (by simp [invoke,run_callFunc hc]) (hcall.mono ?_));rintro e u' w' ⟨⟨v,rfl⟩,hs,T1,T2,cs1,cs2,v1,v2,η',hw,h1,h2,hR⟩
 show Leaves P fn a.tmps R [] (settle u') w'
 rw [hs];exact ⟨_,results_two hr hf hl1 hl2 hw h1 h2,hR⟩
theorem S.retCellT {s1 s2 b1:Nat} {t1 T1:TypeId} {cs1:List Value} {v1 v2:Value} (hr:fn.results=#[.cell s1 t1,.tmp s2]) (hl1:look σ s1=some (.pointer (some ⟨b1,0,none⟩))) (hl2:look σ s2=some v2)
  (s:Sel η (obj b1 T1 cs1) ζ) (h1:LoadsAs P t1 cs1 v1) (h:∀ w,Holds w g (obj b1 T1 cs1::ζ)→R (.returned (.tuple #[v1,v2])) w):S none P fn n R (.code .ret::k) σ [] g η:=by
 refine S.retL fun a w hf hd hw=>?_;have hw' :=hw.sel s;refine ⟨.tuple #[v1,v2],?_,h w hw'⟩;have e1:=h1 w b1 hw'.obj_cells;have l1:=hf.2 s1 _ hl1;have l2:=hf.2 s2 _ hl2
 simp [results,hr,Array.getD_eq_getD_getElem?,l1,l2,asAddr,e1]
end
def errP (t:TypeId) (z:Int):List PanicEntry:=[{ v:=.iface t (.int .i64 z),recovered:=false }]
end Go.Sp
