/- Texts of this proof. -/
import Derived.Test.YtojafegjlahajaaGreatDoorQSpLoop
open Go
namespace Go.Sp
theorem S.rangeAnyD {β χ τ:Type} {P:Program} {fn:Func} {n:Nat} {R:Ending→World→Prop} {k:List Item} {σ:List (Nat × Value)} {D:List Deferred} {g:Gr} {η ζ θ:List SProp} {θ' :List β→List SProp} {f:FuncId} {x:Operand} {first cap:Array Value} {ps:Array Tmp} {psl:List Nat} {assign body:Code}
  {vs:β→χ→List Value} {own:β→χ→List SProp} (Ok Fin:List β→Prop) (W:List β→τ→List SProp) (x0:τ) (hx:ev σ x=some (.func (.func f) first cap)) (hc:callable P f=true) (hps:ps=psl.toArray) (hln:∀ y e,(vs y e).length=psl.length) (hb:psl.all (fun p=>Nat.blt p n)=true)
  (it:∀ (l:Nat) (J:List β→SProp),(∀ done y e,Ok (done++[y])→YCon P l (vs y e).toArray g.h (own y e++[J done]) (Ret fun u η=>u=.bool true∧η=[J (done++[y])])) →
   Con P f (first++#[yieldV l]++cap) g.h (θ++[J []]) (Ret fun _ η=>∃ ys,Fin ys∧η=θ' ys++[J ys]))
  (hs:Sels η (θ++W [] x0) ζ)
  (round:∀ (l D0 fid:Nat) (tm:Array Value) (done:List β) (y:β) (e:χ) (t:τ) (_:Ok (done++[y])) (g' :Gr),g.h.sub g'.h→∀ R:Ending→World→Prop,
   (∀ t' w,Holds w g' (blk l (.loop (loopRec fid tm ps assign body D0))::W (done++[y]) t')→R (.returned (.bool true)) w) →
   S (some l) P fn n R [.code assign,.beginRound,.code body] (under psl (vs y e) σ) [] g' (blk l (.loop (loopRec fid tm ps assign body D0))::(W done t++own y e)))
  (h:∀ D0 t ys,Fin ys→S none P fn n R k σ (⟨.collected D0,#[]⟩::D) g (blk D0 (.deferred (some []))::(W ys t++(θ' ys++ζ)))) :
  S none P fn n R (.code (.rangeFunc x ps assign body)::k) σ D g η:=by
 refine S.rangeFunc (J:=fun j ζ' =>j=none∧∃ ys t,Fin ys∧ζ' =W ys t++(θ' ys++ζ)) hx hc (fun l D0 fid tm hfn hfit=>?_) (fun D0 jump ζ' hJ=>?_)
 ·let L:=loopRec fid tm ps assign body D0
  have hy:∀ done y e,Ok (done++[y])→YCon P l (vs y e).toArray g.h (own y e++[fun m=>∃ t,Sat (blk l (.loop L)::W done t) m]) (Ret fun u η=>u=.bool true∧η=[fun m=>∃ t,Sat (blk l (.loop L)::W (done++[y]) t) m]):=by
   intro done y e hpre
   refine YCon.perm (List.perm_append_comm) (YCon.exi (A:=fun t m=>Sat (blk l (.loop L)::W done t) m) fun t=>?_);refine YCon.imp (ζ:=blk l (.loop L)::(W done t++own y e)) (fun _ z=>Sat.unpack (fun _ u=>u) z) ?_;refine YCon.of (fn:=fn) (n:=n) (σ:=σ) (vs y e) psl rfl hps (hln y e) hb hfn hfit (fun g' hg' R hR=>?_);exact round l D0 fid tm done y e t hpre g' hg' R fun t' w hw=>hR _ _ w ⟨rfl,rfl⟩ (Holds.pack (ζ:=[]) (ws:=blk l (.loop L)::W (done++[y]) t') (A:=fun m=>∃ t,Sat (blk l (.loop L)::W (done++[y]) t) m) (fun _ z=>⟨t',z⟩) (by simpa using hw))
  have hi:=(it l _ hy).frame (ζ:=ζ)
  intro g' hg' w hw
  have hw1:Holds w g' ((θ++[fun m=>∃ t,Sat (blk l (.loop L)::W [] t) m])++ζ):=by
   have hp:(blk l (.loop L)::η).Perm ((blk l (.loop L)::W [] x0)++(θ++ζ)):=by
    refine (List.Perm.cons _ hs.perm).trans ?_;rw [List.cons_append,List.append_assoc];refine List.Perm.cons _ ?_;rw [← List.append_assoc,← List.append_assoc];exact List.Perm.append_right _ List.perm_append_comm
   have h1:=Holds.pack (A:=fun m=>∃ t,Sat (blk l (.loop L)::W [] t) m) (fun _ z=>⟨x0,z⟩) (hw.perm hp);refine h1.perm ?_;rw [← List.cons_append,List.append_assoc];exact (List.perm_append_comm (l₁:=[_]) (l₂:=θ)).append_right ζ |>.trans (by rw [List.append_assoc])
  refine (hi g' hg' w hw1).mono fun e w' hh=>?_;obtain ⟨η',⟨η₁,hp,rfl⟩,hw'⟩:=hh
  cases e with
  |panicked _=>exact hp.elim
  |outgrown=>exact hp.elim
  |returned v =>
   obtain ⟨ys,hfin,rfl⟩:∃ ys,Fin ys∧η₁=_:=hp;have h2:Holds w' g' ((fun m=>∃ t,Sat (blk l (.loop L)::W ys t) m)::(θ' ys++ζ)):=hw'.perm (by
    rw [← List.cons_append];exact (List.perm_append_comm (l₁:=θ' ys) (l₂:=[_])).append_right ζ)
   obtain ⟨t,h3⟩:=Holds.exi (A:=fun t m=>Sat (blk l (.loop L)::W ys t) m) h2;exact ⟨_,⟨L,W ys t++(θ' ys++ζ),by simp [L,loopRec],⟨rfl,ys,t,hfin,rfl⟩,rfl⟩,h3.imp fun _ z=>Sat.unpack (fun _ u=>u) z⟩
 ·obtain ⟨rfl,ys,t,hfin,rfl⟩:=hJ
  exact h D0 t ys hfin
end Go.Sp
