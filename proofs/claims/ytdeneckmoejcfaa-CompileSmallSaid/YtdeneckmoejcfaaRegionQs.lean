/- A statement whose order Go leaves open, walked once: where every operation, done in the frame as it stands znZ the statement, gives the value that this frame holds, whatever was done before it. No condition of its own. -/
import Derived.Test.YtdeneckmoejcfaaRegionZs
set_option linter.unusedSimpArgs false
set_option linter.unusedVariables false
namespace Go.Proofs.Ytdeneckmoejcfaa
open Go.RowKit

theorem zos (a:Act):fill a [] []=a:=rfl
section
variable {P : Program} {ops : Array Oper} {a0 A : Act} {E : World -> Prop} {Q : Exit -> Act -> World -> Prop}

end
theorem zot (n:Nat) (X:Nat->Value):tmpl [] n X=[]:=rfl
theorem zob (v:Value) (l:List (Option Value)) (n:Nat) (X:Nat->Value):tmpl (some v :: l) n X=v :: tmpl l (n+1) X:=rfl
theorem zoc (l:List (Option Value)) (n:Nat) (X:Nat->Value):tmpl (none :: l) n X=X n :: tmpl l (n+1) X:=rfl
theorem zo9:∀ (T:List (Option Value)) (n:Nat) (X:Nat->Value) (i:Nat),(tmpl T n X)[i]? = (T[i]?).map fun t=>t.getD (X (n+i))
 | [],_,_,i=>by simp [tmpl]
 | some v :: l,n,X,0=>rfl
 | none :: l,n,X,0=>rfl
 | some v :: l,n,X,i+1=>by rw [zob,List.getElem?_cons_succ,zo9 l,List.getElem?_cons_succ,show n+1+i=n+(i+1) from by omega]
 | none :: l,n,X,i+1=>by rw [zoc,List.getElem?_cons_succ,zo9 l,List.getElem?_cons_succ,show n+1+i=n+(i+1) from by omega]

theorem zpN:∀ (l:List Oper) (a:Act) (vs:List Value) (i:Nat) (o:Oper) (t:Nat) (v:Value),zcg l=true->l[i]? = some o->o.dst=some t->vs[i]? = some v->t < a.tmps.size->(fill a l vs).tmps[t]? = some v
 | [],_,_,i,o,t,v,_,h,_,_,_=>by simp at h
 | p :: l,a,[],i,o,t,v,_,_,_,h,_=>by simp at h
 | p :: l,a,u :: vs,0,o,t,v,ho,h,hd,hv,ht=>by
  simp at h hv;subst h;subst hv;rw [zfb];simp only [zcg,hd,yC,List.all_eq_true] at ho
  rw [zb8 l _ vs t (fun q hq=>by simpa using ho.1 q hq),hd,zbM ht]
 | p :: l,a,u :: vs,i+1,o,t,v,ho,h,hd,hv,ht=>by
  rw [zfb];simp only [zcg,yC] at ho;exact zpN l _ vs i o t v ho.2 (by simpa using h) hd (by simpa using hv) (by rw [za8];exact ht)
section
variable {P : Program} {l : List Oper} {a0 : Act} {T : List (Option Value)} {phi : Nat -> Value -> World -> Prop} {w0 : World} {Q : Exit -> Act -> World -> Prop}

theorem zsg (honce:zcg l=true) {X X':Nat->Value} {i:Nat} (hX:∀ j,j≠i->X' j=X j) {t:Nat} (ht:∀ o,l[i]? = some o->o.dst≠some t) (hlen:T.length=l.length) :
  (fill a0 l (tmpl T 0 X')).tmps[t]? = (fill a0 l (tmpl T 0 X)).tmps[t]?:=by
 by_cases hw:∃ (j:Nat) (p:Oper),l[j]? = some p/\p.dst=some t
 ·obtain ⟨j,p,hp,hd⟩:=hw;have hji:j≠i:=fun e=>by subst e;exact ht p hp hd
  have hjl:j < l.length:=(List.getElem?_eq_some_iff.1 hp).1;have hTj:T[j]? = some T[j]:=yD (by omega);rcases Nat.lt_or_ge t a0.tmps.size with hlt | hge
  ·rw [zpN l a0 _ j p t (T[j].getD (X' (0+j))) honce hp hd (by rw [zo9,hTj];rfl) hlt,zpN l a0 _ j p t (T[j].getD (X (0+j))) honce hp hd (by rw [zo9,hTj];rfl) hlt,Nat.zero_add,hX j hji]
  ·rw [Array.getElem?_eq_none (by rw [zbS];exact hge),Array.getElem?_eq_none (by rw [zbS];exact hge)]
 ·rw [zb8 l a0 _ t (fun o ho hd=>by obtain ⟨j,hj,e⟩:=List.getElem_of_mem ho;exact hw ⟨j,o,by simp [hj,e],hd⟩),zb8 l a0 _ t (fun o ho hd=>by obtain ⟨j,hj,e⟩:=List.getElem_of_mem ho;exact hw ⟨j,o,by simp [hj,e],hd⟩)]

end
section
variable {P : Program} {E : World -> Prop}
end
section
variable {P : Program} {ops : Array Oper} {a0 A : Act} {E : World -> Prop} {Q : Exit -> Act -> World -> Prop}

end

section
variable {P : Program} {E : World -> Prop}
end
end Go.Proofs.Ytdeneckmoejcfaa
