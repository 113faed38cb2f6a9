/- ParseSmall: rows of short words; small trees in memory. -/
import Derived.Test.YtoaojdobjinhfaaGreatDoorRLnBPz
set_option linter.unusedSimpArgs false
set_option linter.unusedVariables false
namespace Go.Proofs.YtoaojdobjinhfaaGreatDoor
open Go.RowKit
def RowW (W : World) (n : Nat) (v : Value) : Prop := ∃ ss : List ByteArray, ss.length = n /\ (∀ s ∈ ss, s.size <= 10) /\ Sl W 1 n (ss.map Value.string) v
theorem RowW.below{W d:World}{n:Nat}{v:Value}(h:RowW W n v)(j:Below W.heap.size W d):RowW d n v:=by
 obtain⟨l,f,g,i⟩:=h;exact⟨l,f,g,i.below (by omega) j (zr _)⟩
theorem RowW.lit(w:World)(d:List ByteArray)(e:TypeId)(n:Nat)(f:d.length=n)(g:∀s∈d,s.size<=10)(i:n<=1000):RowW (w.alloc (.cells (d.map Value.string).toArray e)) n (.slice (some ⟨w.heap.size,0,none⟩) n n):=by
 refine⟨d,f,g,zb7 (OwnV.new w e _) (by rw[List.length_map,f,Nat.mul_one]) (zr _) (by omega)⟩
theorem RowW.at{W:World}{n:Nat}{v:Value}(h:RowW W n v)(q:0<n):∃b d cap,v=.slice (some ⟨b,d,none⟩) n cap/\b<W.heap.size/\∀k,k<n->∃s:ByteArray,s.size<=10/\W.cell? ⟨b,d+k,none⟩=some (.string s):=by
 obtain⟨i,u,j,g⟩:=h;obtain⟨a,cap,rfl,-,-⟩:=g.form;obtain⟨b,d,rfl,l,m⟩:=g.at (by omega) q;refine⟨b,d,cap,rfl,l,fun k hk=>?_⟩;have f:k<i.length:=by omega
 refine⟨i[k],j _ (List.getElem_mem f),?_⟩;rw[m k (by omega),List.getElem?_map,yD f];rfl
theorem RowW.cell{W:World}{n b d cap:Nat}(h:RowW W n (.slice (some ⟨b,d,none⟩) n cap)){k:Nat}(g:k<n):∃s:ByteArray,s.size<=10/\W.cell? ⟨b,d+k,none⟩=some (.string s):=by
 obtain⟨i,l,j,e,-,f⟩:=h.at (by omega);cases e;exact f k g
/-! small trees -/
def nameX : Ex := .mk 2 0 [97] []
def oneX : Ex := .mk 1 1 [] []
def nameV : List Value := [.int .u8 2, .int .i64 0, .string { data := #[97] }, .slice none 0 0]
def oneV : List Value := [.int .u8 1, .int .i64 1, .string { data := #[] }, .slice none 0 0]
theorem es_two{W:World}{B g:Nat}{d n1 f n2:Int}{m1 m2:List UInt8}{a1 a2:List Ex}{v1 v2:Value}(l:OwnV W g 29 [.int .u8 d,.int .i64 n1,.string (bstr m1),v1,.int .u8 f,.int .i64 n2,.string (bstr m2),v2])(m:g<B)(i:EsL W B a1 v1)(j:EsL W B a2 v2):EsL W B [.mk d n1 m1 a1,.mk f n2 m2 a2] (.slice (some ⟨g,0,none⟩) 2 2):=by
 obtain⟨A,q,u,v⟩:=i;obtain⟨C,w,y,z⟩:=j;exact⟨_,zb7 l rfl (zr _) (by omega),.inr fun k hk=>by cases hk;exact m,ExsC.cons q u v (ExsC.cons w y z .nil)⟩
theorem es_one{W:World}{B g:Nat}{d n1:Int}{m1:List UInt8}{a1:List Ex}{v1:Value}(i:OwnV W g 29 [.int .u8 d,.int .i64 n1,.string (bstr m1),v1])(j:g<B)(f:EsL W B a1 v1):EsL W B [.mk d n1 m1 a1] (.slice (some ⟨g,0,none⟩) 1 1):=by
 obtain⟨u,l,m,q⟩:=f;exact⟨_,zb7 i rfl (zr _) (by omega),.inr fun k hk=>by cases hk;exact j,ExsC.cons l m q .nil⟩
theorem es_first{W:World}{B g:Nat}(l:OwnV W g 29 (nameV++oneV))(j:g<B){k:Nat}(d:k<=2):EsL W B ([nameX,oneX].take k) (.slice (some ⟨g,0,none⟩) k 2):=by
 have hS:Sl W 4 2 (nameV++oneV) (.slice (some ⟨g,0,none⟩) 2 2):=zb7 l rfl (zr _) (by omega);have f:=Sl.take hS d;have i:k=0∨k=1∨k=2:=by omega
 rcases i with rfl|rfl|rfl
 ·exact⟨_,f,.inl rfl,.nil⟩
 ·exact⟨_,f,.inr fun k d=>by cases d;exact j,ExsC.cons (Sl.nil W 4) (.inl rfl) .nil .nil⟩
 ·exact⟨_,f,.inr fun k d=>by cases d;exact j,ExsC.cons (Sl.nil W 4) (.inl rfl) .nil (ExsC.cons (Sl.nil W 4) (.inl rfl) .nil .nil)⟩
theorem ss_one{W:World}{B g:Nat}{op n:Int}{name:List UInt8}{es:List Ex}{body els:List St}{d vb f:Value}(m:OwnV W g 56 [.int .u8 op,.int .i64 n,.string (bstr name),d,vb,f])(q:g<B)(i:EsL W B es d)(j:SsL W B body vb)(l:SsL W B els f):SsL W B [.mk op n name es body els] (.slice (some ⟨g,0,none⟩) 1 1):=by
 obtain⟨F,u,v,w⟩:=i;obtain⟨G,y,z,A⟩:=j;obtain⟨H,C,D,E⟩:=l;exact⟨_,zb7 m rfl (zr _) (by omega),.inr fun k hk=>by cases hk;exact q,StsC.cons u v w y z A C D E .nil⟩
theorem es_up{w w':World}{B:Nat}{xs:List Ex}{v:Value}(h:EsL w B xs v)(i:Below B w w'){B':Nat}(d:B<=B'):EsL w' B' xs v:=by
 obtain⟨c,a1,a2,f⟩:=h.low i;exact⟨c,a1,a2.imp id fun h g hg=>Nat.lt_of_lt_of_le (h g hg) d,f.weak fun g _ hg=>Nat.lt_of_lt_of_le hg d⟩
theorem ss_up{w w':World}{B:Nat}{xs:List St}{v:Value}(h:SsL w B xs v)(i:Below B w w'){B':Nat}(d:B<=B'):SsL w' B' xs v:=by
 obtain⟨c,a1,a2,f⟩:=h.low i;exact⟨c,a1,a2.imp id fun h g hg=>Nat.lt_of_lt_of_le (h g hg) d,f.weak fun g _ hg=>Nat.lt_of_lt_of_le hg d⟩
theorem newbox(w:World)(e:TypeId)(vs:List Value):∃W,W=w.alloc (.cells vs.toArray e)/\OwnV W w.heap.size e vs/\Below w.heap.size w W:=⟨_,rfl,OwnV.new _ _ _,(yR _ _).alloc (zr _) _⟩
end Go.Proofs.YtoaojdobjinhfaaGreatDoor
