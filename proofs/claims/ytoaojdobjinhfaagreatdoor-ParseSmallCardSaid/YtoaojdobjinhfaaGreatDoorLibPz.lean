/- General facts on slices that are read, on memory that only grows, and on maps with integer keys: they are used by every later text; no condition. -/
import Derived.Test.YtoaojdobjinhfaaGreatDoorAl8
import Derived.WalkSpells
import Derived.WalkLawsBesides
import Derived.WalkSmall
import Derived.Maps.RangeWalk
import Derived.Maps.OwnOps
import Derived.Maps.OwnSet
import Derived.Maps.AppendAt
import Derived.Deep.RegionHeld3
import Derived.Deep.QuietTactic
import Derived.BigQuiet
import Derived.Test.YtoaojdobjinhfaaGreatDoorRows
import Derived.IntWalk
set_option linter.unusedSimpArgs false
set_option linter.unusedVariables false
set_option maxHeartbeats 1000000
namespace Go.Proofs.YtoaojdobjinhfaaGreatDoor
open Go.RowKit

def Sl (w : World) (sz n : Nat) (cs : List Value) (v : Value) : Prop :=
  ∃ a cap, v = .slice a n cap /\ n <= cap /\ cap <= 9223372036854775807 /\ cs.length = n * sz /\
    (0 < n -> ∃ b off, a = some ⟨b, off, none⟩ /\ ∀ j, j < n * sz -> w.cell? ⟨b, off + j, none⟩ = cs[j]?)

theorem Sl.len{w sz n cs v}(h:Sl w sz n cs v):cs.length=n*sz:=by obtain⟨a,cap,g,f,i,d,j⟩:=h;exact d

theorem Sl.below{w w':World}{sz n:Nat}{cs:List Value}{v:Value}{B:Nat}(g:0<sz)(h:Sl w sz n cs v)(y:Below B w w')(C:w.heap.size<=B):Sl w' sz n cs v:=by
 obtain⟨a,cap,f,q,u,m,z⟩:=h;refine⟨a,cap,f,q,u,m,fun hn=>?_⟩;obtain⟨b,d,e,l⟩:=z hn;refine⟨b,d,e,fun j hj=>?_⟩
 have A:b<w.heap.size:=by
  have i:=l 0 (Nat.mul_pos hn g);have f:cs[0]? = some (cs[0]'(by rw[m];exact Nat.mul_pos hn g)):=yD _;rw[f] at i;exact World.block_lt_of_cell? w _ i
 rw[y.cell (p:=⟨b,d+j,none⟩) (by show b<B;omega)];exact l j hj

theorem Sl.at{w:World}{sz n:Nat}{cs:List Value}{a:Option Addr}{m cap:Nat}(l:0<sz)(h:Sl w sz n cs (.slice a m cap))(g:0<n) :
  ∃b d,a=some ⟨b,d,none⟩/\b<w.heap.size/\∀j,j<n*sz->w.cell? ⟨b,d+j,none⟩=cs[j]?:=by
 obtain⟨B,i,f,z,A,v,y⟩:=h;cases f;obtain⟨b,d,e,u⟩:=y g;refine⟨b,d,e,?_,u⟩;have q:=u 0 (Nat.mul_pos g l);have f:cs[0]? = some (cs[0]'(by rw[v];exact Nat.mul_pos g l)):=yD _;rw[f] at q;exact World.block_lt_of_cell? w _ q

theorem Sl.form{w:World}{sz n:Nat}{cs:List Value}{v:Value}(h:Sl w sz n cs v):∃a cap,v=.slice a n cap/\n<=cap/\cap<=9223372036854775807:=by
 obtain⟨a,cap,f,d,g,_⟩:=h;exact⟨a,cap,f,d,g⟩

theorem Sl.of_own{w:World}{base:Nat}{e:TypeId}{sz:Nat}{v:Value}{n:Nat}{xs:List Value}(h:w.ownsRow base e sz v n xs):Sl w sz n xs v:=by
 obtain⟨d,m⟩:=h;rcases m with⟨rfl,rfl⟩|⟨g,cap,f,rfl,q,y,l,i,u,ht⟩
 ·exact⟨none,0,rfl,by omega,by omega,d,by omega⟩
 ·refine⟨some ⟨g,0,none⟩,cap,rfl,l,by unfold maxLen at i;omega,d,fun _=>⟨g,0,rfl,fun j hj=>?_⟩⟩;have z:=World.ownsRow.cells (w:=w) (base:=base) (e:=e) (size:=sz) (v:=.slice (some ⟨g,0,none⟩) n cap) (n:=n) (xs:=xs) ⟨d,.inr ⟨g,cap,f,rfl,q,y,l,i,u,ht⟩⟩ (g:=g) rfl j (xs[j]'(by rw[d];exact hj)) (yD _);rw[yD (by rw[d];exact hj),<-z];unfold Addr.add;split <;> simp_all

theorem zbu{w w':World}{base:Nat}{e:TypeId}{sz:Nat}{v:Value}{n:Nat}{xs:List Value}{B:Nat}(h:w.ownsRow base e sz v n xs)(q:Below B w w')(y:w.heap.size<=B):w'.ownsRow base e sz v n xs:=by
 obtain⟨m,j⟩:=h;refine⟨m,?_⟩;rcases j with u|⟨g,cap,f,rfl,l,i,d⟩
 ·exact .inl u
 ·exact .inr ⟨g,cap,f,rfl,l,by rw[q.block g (by have:=lt_of_block i;omega)];exact i,d⟩
theorem Below.keep{w w':World}(h:Below w.heap.size w w'){a:Addr}{v:Value}(d:w.cell? a=some v):w'.cell? a=some v:=by
 rw[h.cell (World.block_lt_of_cell? w _ d)];exact d
def Ints (w : World) (xs : List Int) (v : Value) : Prop := Sl w 1 xs.length (xs.map (Value.int .i64)) v
theorem Ints.below{w w':World}{xs:List Int}{v:Value}{B:Nat}(h:Ints w xs v)(d:Below B w w')(f:w.heap.size<=B):Ints w' xs v:=Sl.below (by omega) h d f


theorem zeW{α β:Type}(f:α->List β)(sz:Nat)(d:∀x,(f x).length=sz)(l:List α):∀(k:Nat) (h:k<l.length) (j:Nat),j<sz->(l.flatMap f)[k*sz+j]? = (f l[k])[j]?:=by
 induction l with
 | nil=>intro k h;simp at h
 | cons s l ih =>
  intro k h j g
  cases k with
  | zero =>
   simp only[List.flatMap_cons,Nat.zero_mul,Nat.zero_add,List.getElem_cons_zero]
   rw[List.getElem?_append_left (by rw[d];exact g)]
  | succ k =>
   have:=ih k (by simpa using h) j g;simp only[List.flatMap_cons,List.getElem_cons_succ];rw[List.getElem?_append_right (by rw[d,Nat.succ_mul];omega),<-this];congr 1
   rw[d,Nat.succ_mul];omega
theorem retb{a b:Bool}(h:a=b):Ending.returned (.bool a)=.returned (.bool b):=by rw[h]
/-! bits of 32 -/
theorem Below.of_grown{B:Nat}{w w':World}{row:Option Nat}(f:w.grownBy w' row)(d:B<=w.heap.size)(g:∀k,row=some k->B<=k):Below B w w':=(yR B w).grown f d g
theorem zbm{P:Program}{ops:Array Oper}{l:List Oper}{o:Oper}{a:Act}{Q:Exit->Act->World->Prop}(I:o.guard=none)(s x:Operand)(t:TypeId)
  (K:o.op=.call { callee:=.builtin .append,args:=#[s,x],argTypes:=#[t,t] }) {w0:World} {f:Array Value} {O:TypeId}
  {base:Nat} {e:TypeId} {size:Nat} {v:Value} {n:Nat} {xs:List Value} (hown:w0.ownsRow base e size v n xs) {z:Value} {d:Nat}
  (hi:(P.info? e).map (fun i=>(i.zero,i.size,i.bytes))=some (some z,size,d)) (ht:P.underlying t=some (.slice e)) (F:z.cells.size=size) (H:0<size)
  (J:a.eval s=v) (m c:Nat) (L:a.eval x=.slice (some ⟨w0.heap.size,0,none⟩) m c) (M:f.size=m*size) (N:f.toList.all (fun u=>u.oneCell')=true)
  (G:n+m<=maxLen) (g:(n+m)*d<=140737488355328) (q:base<=w0.heap.size)
  (h:∀A w',w'.ownsRow base e size A (n+m) (xs++f.toList)->w0.grownBy w' v.ownBlock->Below base w0 w'->wpList P ops Q l (a.put o.dst A) w'):wpList P ops Q (o::l) a (w0.alloc (.cells f O)):=by
 obtain⟨i,hi,C,D,E⟩:=info_parts hi;refine wpList_append_own _ I s x t K base e i z size d ht hi C D E F H v n xs J (hown.alloc _) ⟨w0.heap.size,0,none⟩ m c f.toList L (by simpa using M) ?_ (fun u hu=>List.all_eq_true.1 N u hu) G g (by simp;omega) ?_
 ·intro j u hu;have:(⟨w0.heap.size,0,none⟩:Addr).add j=⟨w0.heap.size,j,none⟩:=by unfold Addr.add;split <;> simp_all
  rw[this,World.cell?_alloc_new];simpa using hu
 ·intro A w' B w _;have y:w0.grownBy w' v.ownBlock:=⟨w.os,w.tape,w.output,by have:=w.size;simp at this;omega,fun k hk hne=>by rw[w.block k (by simp;omega) hne];exact Below.heap_alloc w0 _ k hk⟩;exact h A w' B y (Below.of_grown y q (fun k hk=>(hown.lt k hk).1))

theorem zbj{P:Program}{ops:Array Oper}{q:List Oper}{o:Oper}{a:Act}{Q:Exit->Act->World->Prop}(K:o.guard=none)(s x:Operand)(t:TypeId)
  (M:o.op=.call { callee:=.builtin .append,args:=#[s,x],argTypes:=#[t,t] }) {w0:World} {f:Array Value} {S:TypeId}
  {base:Nat} {e:TypeId} {size:Nat} {v:Value} {n:Nat} {xs:List Value} (hown:w0.ownsRow base e size v n xs) {z:Value} {d:Nat}
  (hi:(P.info? e).map (fun i=>(i.zero,i.size,i.bytes))=some (some z,size,d)) (ht:P.underlying t=some (.slice e)) (G:z.cells.size=size) (J:0<size)
  (L:a.eval s=v) (m c:Nat) (N:a.eval x=.slice (some ⟨w0.heap.size,0,none⟩) m c) (O:f.size=m*size) (R:f.toList.all (fun u=>u.oneCell')=true)
  (I:n+m<=maxLen) (l:(n+m)*d<=140737488355328) (w:base<=w0.heap.size)
  (h:∀y w',w'.ownsRow base e size y (n+m) (xs++f.toList)->w0.grownBy w' v.ownBlock->Below base w0 w'->(y.ownBlock=v.ownBlock∨∃g,y.ownBlock=some g/\w0.heap.size<=g)->wpList P ops Q q (a.put o.dst y) w'):wpList P ops Q (o::q) a (w0.alloc (.cells f S)):=by
 obtain⟨i,hi,D,E,F⟩:=info_parts hi;refine wpList_append_own_at _ K s x t M base e i z size d ht hi D E F G J v n xs L (hown.alloc _) ⟨w0.heap.size,0,none⟩ m c f.toList N (by simpa using O) ?_ (fun u hu=>List.all_eq_true.1 R u hu) I l (by simp;omega) ?_
 ·intro j u hu;have:(⟨w0.heap.size,0,none⟩:Addr).add j=⟨w0.heap.size,j,none⟩:=by unfold Addr.add;split <;> simp_all
  rw[this,World.cell?_alloc_new];simpa using hu
 ·intro y w' C A _ H;have B:w0.grownBy w' v.ownBlock:=⟨A.os,A.tape,A.output,by have:=A.size;simp at this;omega,fun k hk hne=>by rw[A.block k (by simp;omega) hne];exact Below.heap_alloc w0 _ k hk⟩;exact h y w' C B (Below.of_grown B w (fun k hk=>(hown.lt k hk).1)) (H.imp id fun e=>⟨_,e,by simp⟩)
theorem zfH{P:Program}{w:World}{t ty e:TypeId}{i:TypeInfo}(ht:P.underlying t=some (.slice e))(hi:P.info? e=some i)(b a:Option Addr){n cap c:Nat}(d:n<=cap) :
  (Builtin.append_ #[t,t] ty #[.slice b n cap,.slice a 0 c]).run P w=.ok (.slice b n cap) w:=by
 cases b <;> cases a <;> simp[Builtin.append_,run_underlying ht,sizeOf,typeInfo,hi,Builtin.lenOf,d,Builtin.firstCells,loadCells,loadCellsFrom,storeCells]
theorem Sl.grown{w w':World}{sz n:Nat}{cs:List Value}{v:Value}{row:Option Nat}(h:Sl w sz n cs v)(m:w.grownBy w' row)(d:n=0∨v.ownBlock≠row):Sl w' sz n cs v:=by
 obtain⟨a,cap,rfl,l,q,i,y⟩:=h;refine⟨a,cap,rfl,l,q,i,fun hn=>?_⟩;obtain⟨b,f,rfl,u⟩:=y hn;refine⟨b,f,rfl,fun j hj=>?_⟩;have g:cs[j]? = some (cs[j]'(by rw[i];exact hj)):=yD _;rw[g,m.cell ((u j hj).trans g)];rcases d with rfl|d
 ·omega
 ·simpa[Value.ownBlock] using d
theorem Sl.ownLt{w:World}{sz n:Nat}{cs:List Value}{v:Value}(l:0<sz)(h:Sl w sz n cs v)(z:0<n){g:Nat}(i:v.ownBlock=some g):g<w.heap.size:=by
 obtain⟨a,cap,rfl,f,j,q,u⟩:=h;have d:Sl w sz n cs (.slice a n cap):=⟨a,cap,rfl,f,j,q,u⟩;obtain⟨b,m,rfl,y,_⟩:=d.at l z;simp[Value.ownBlock] at i;omega
def RowsI (w : World) (row : Option Nat) (xss : List (List Int)) (vs : List Value) : Prop :=
  vs.length = xss.length /\ ∀ (i : Nat) (u : Value) (xs : List Int), vs[i]? = some u -> xss[i]? = some xs -> Ints w xs u /\ (xs.length = 0 ∨ u.ownBlock ≠ row)
theorem RowsI.nil(w:World)(row:Option Nat):RowsI w row [] []:=⟨rfl,fun i u xs h=>by simp at h⟩
theorem RowsI.below{w w':World}{row:Option Nat}{d:List (List Int)}{vs:List Value}{B:Nat}(h:RowsI w row d vs)(f:Below B w w')(g:w.heap.size<=B):RowsI w' row d vs:=
 ⟨h.1,fun i u xs h1 h2=>⟨(h.2 i u xs h1 h2).1.below f g,(h.2 i u xs h1 h2).2⟩⟩
theorem RowsI.grown{w w':World}{row:Option Nat}{d:List (List Int)}{vs:List Value}(h:RowsI w row d vs)(f:w.grownBy w' row):RowsI w' row d vs:=
 ⟨h.1,fun i u xs h1 h2=>⟨Sl.grown (h.2 i u xs h1 h2).1 f (h.2 i u xs h1 h2).2,(h.2 i u xs h1 h2).2⟩⟩
theorem RowsI.push{w:World}{row:Option Nat}{d:List (List Int)}{vs:List Value}(h:RowsI w row d vs){u:Value}{xs:List Int}(m:Ints w xs u)(f:xs.length=0∨u.ownBlock≠row):RowsI w row (d++[xs]) (vs++[u]):=by
 refine⟨by simp[h.1],fun i u' xs' h1 h2=>?_⟩;by_cases hi:i<vs.length
 ·rw[List.getElem?_append_left hi] at h1;rw[List.getElem?_append_left (by rw[<-h.1];exact hi)] at h2;exact h.2 i u' xs' h1 h2
 ·rw[List.getElem?_append_right (by omega)] at h1;rw[List.getElem?_append_right (by rw[<-h.1];omega),<-h.1] at h2;obtain⟨q,j⟩:=List.getElem?_eq_some_iff.1 h1;obtain⟨l,g⟩:=List.getElem?_eq_some_iff.1 h2;simp at j g;subst j;subst g;exact⟨m,f⟩
theorem Sl.nil(w:World)(sz:Nat):Sl w sz 0 [] (.slice none 0 0):=⟨none,0,rfl,by simp,by simp,by simp,by simp⟩
def OwnV (w : World) (g : Nat) (e : TypeId) (vs : List Value) : Prop := w.heap[g]? = some (.cells vs.toArray e (0, 0))
theorem OwnV.lt{w:World}{g:Nat}{e:TypeId}{vs:List Value}(h:OwnV w g e vs):g<w.heap.size:=lt_of_block h
theorem OwnV.cell{w:World}{g:Nat}{e:TypeId}{vs:List Value}(h:OwnV w g e vs){i:Nat}{v:Value}(hi:vs[i]? = some v):w.cell? ⟨g,i,none⟩=some v:=by
 unfold OwnV at h;simp[World.cell?,h,hi]
theorem yc2{w:World}{g:Nat}{y:TypeId}{a b:Value}{l:List Value}(z:OwnV w g y (a::b::l)):w.cell? ⟨g,0,none⟩=some a/\w.cell? ⟨g,1,none⟩=some b:=⟨z.cell rfl,z.cell rfl⟩
theorem yc3{w:World}{g:Nat}{y:TypeId}{a b c:Value}{l:List Value}(z:OwnV w g y (a::b::c::l)):w.cell? ⟨g,0,none⟩=some a/\w.cell? ⟨g,1,none⟩=some b/\w.cell? ⟨g,2,none⟩=some c:=⟨z.cell rfl,z.cell rfl,z.cell rfl⟩
theorem yc4{w:World}{g:Nat}{y:TypeId}{a b c d:Value}{l:List Value}(z:OwnV w g y (a::b::c::d::l)):w.cell? ⟨g,0,none⟩=some a/\w.cell? ⟨g,1,none⟩=some b/\w.cell? ⟨g,2,none⟩=some c/\w.cell? ⟨g,3,none⟩=some d:=⟨z.cell rfl,z.cell rfl,z.cell rfl,z.cell rfl⟩
theorem yc5{w:World}{g:Nat}{y:TypeId}{a b c d e:Value}{l:List Value}(z:OwnV w g y (a::b::c::d::e::l)):w.cell? ⟨g,0,none⟩=some a/\w.cell? ⟨g,1,none⟩=some b/\w.cell? ⟨g,2,none⟩=some c/\w.cell? ⟨g,3,none⟩=some d/\w.cell? ⟨g,4,none⟩=some e:=⟨z.cell rfl,z.cell rfl,z.cell rfl,z.cell rfl,z.cell rfl⟩
theorem yc6{w:World}{g:Nat}{y:TypeId}{a b c d e f:Value}{l:List Value}(z:OwnV w g y (a::b::c::d::e::f::l)):w.cell? ⟨g,0,none⟩=some a/\w.cell? ⟨g,1,none⟩=some b/\w.cell? ⟨g,2,none⟩=some c/\w.cell? ⟨g,3,none⟩=some d/\w.cell? ⟨g,4,none⟩=some e/\w.cell? ⟨g,5,none⟩=some f:=⟨z.cell rfl,z.cell rfl,z.cell rfl,z.cell rfl,z.cell rfl,z.cell rfl⟩
theorem yc7{w:World}{g:Nat}{y:TypeId}{a b c d e f p:Value}{l:List Value}(z:OwnV w g y (a::b::c::d::e::f::p::l)):w.cell? ⟨g,0,none⟩=some a/\w.cell? ⟨g,1,none⟩=some b/\w.cell? ⟨g,2,none⟩=some c/\w.cell? ⟨g,3,none⟩=some d/\w.cell? ⟨g,4,none⟩=some e/\w.cell? ⟨g,5,none⟩=some f/\w.cell? ⟨g,6,none⟩=some p:=⟨z.cell rfl,z.cell rfl,z.cell rfl,z.cell rfl,z.cell rfl,z.cell rfl,z.cell rfl⟩
theorem yc8{w:World}{g:Nat}{y:TypeId}{a b c d e f p q:Value}{l:List Value}(z:OwnV w g y (a::b::c::d::e::f::p::q::l)):w.cell? ⟨g,0,none⟩=some a/\w.cell? ⟨g,1,none⟩=some b/\w.cell? ⟨g,2,none⟩=some c/\w.cell? ⟨g,3,none⟩=some d/\w.cell? ⟨g,4,none⟩=some e/\w.cell? ⟨g,5,none⟩=some f/\w.cell? ⟨g,6,none⟩=some p/\w.cell? ⟨g,7,none⟩=some q:=⟨z.cell rfl,z.cell rfl,z.cell rfl,z.cell rfl,z.cell rfl,z.cell rfl,z.cell rfl,z.cell rfl⟩
theorem OwnV.free{w:World}{g:Nat}{e:TypeId}{vs:List Value}(h:OwnV w g e vs)(i:Nat):w.frozen? ⟨g,i,none⟩=false:=by
 unfold OwnV at h;simp[World.frozen?,h]
theorem OwnV.set{w:World}{g:Nat}{e:TypeId}{vs:List Value}(h:OwnV w g e vs)(i:Nat)(v:Value):OwnV (w.setCell ⟨g,i,none⟩ v) g e (vs.set i v):=by
 have d:=h.lt
 unfold OwnV at *
 have f:w.heap[g]=.cells vs.toArray e (0,0):=by simpa[Array.getElem?_eq_getElem d] using h
 unfold World.setCell;rw[Array.getElem?_eq_getElem (by simpa using d),Array.getElem_modify_self,f];simp
theorem OwnV.below{w w':World}{g:Nat}{e:TypeId}{vs:List Value}{B:Nat}(h:OwnV w g e vs)(d:Below B w w')(f:w.heap.size<=B):OwnV w' g e vs:=by
 have:=h.lt
 unfold OwnV at *
 rw[d.block g (by omega)];exact h
theorem OwnV.grown{w w':World}{g:Nat}{e:TypeId}{vs:List Value}{row:Option Nat}(h:OwnV w g e vs)(f:w.grownBy w' row)(d:some g≠row):OwnV w' g e vs:=by
 have:=h.lt
 unfold OwnV at *
 rw[f.block g this d];exact h
theorem OwnV.alloc{w:World}{g:Nat}{e:TypeId}{vs:List Value}(h:OwnV w g e vs)(o:Obj):OwnV (w.alloc o) g e vs:=h.grown (World.grownBy_alloc w o none) (by simp)
theorem OwnV.new(w:World)(e:TypeId)(vs:List Value):OwnV (w.alloc (.cells vs.toArray e)) w.heap.size e vs:=heap_alloc_new w _
theorem OwnV.own{w:World}{g:Nat}{e:TypeId}{vs:List Value}(h:OwnV w g e vs){base n cap:Nat}(i:base<=g)(j:vs.length=n)(f:cap=n)(d:n<=maxLen):w.ownsRow base e 1 (.slice (some ⟨g,0,none⟩) n cap) n vs:=by
 subst j;subst f;exact⟨by simp,.inr ⟨g,vs.length,vs.toArray,rfl,i,h,zr _,d,by simp,by simp⟩⟩
def zaV (b : Int) : Bool := (decide (97 <= b) && decide (b <= 122)) || ((decide (65 <= b) && decide (b <= 90)) || b == 95)
def za9 (b : Int) : Bool := decide (48 <= b) && decide (b <= 57)
def zaH (b : UInt8) : Bool := zaV (b.toNat : Int)
def zaG (b : UInt8) : Bool := za9 (b.toNat : Int)
def zaf (b : UInt8) : Bool := zaH b || zaG b
structure Tok where
  kind : Int
  text : List UInt8
  n : Int
  line : Int
  col : Int
inductive LexR where
  | ok (l : List Tok)
  | err (line col code : Int)
def LexR.cons (t : Tok) : LexR -> LexR
  | .ok l => .ok (t :: l)
  | .err a b c => .err a b c
def zam : List UInt8 -> Bool -> Int -> Int -> List UInt8 × Int × Int
  | [], _, l, c => ([], l, c)
  | b :: r, cm, l, c =>
    if b.toNat = 10 then zam r false (l + 1) 1
    else if cm = true then zam r true l (c + 1)
    else if b.toNat = 32 ∨ b.toNat = 9 then zam r false l (c + 1)
    else if b.toNat = 35 then zam r true l (c + 1)
    else (b :: r, l, c)
def zbt : List Nat := [43, 45, 42, 47, 37, 60, 62, 33, 61, 40, 41, 91, 93, 123, 125, 44, 59]
def zbB : List (Nat × Nat) := [(61, 61), (33, 61), (60, 61), (62, 61), (38, 38), (124, 124)]
def zag : List UInt8 -> Nat
  | [] => 0
  | [a] => if a.toNat ∈ zbt then 1 else 0
  | a :: b :: _ => if (a.toNat, b.toNat) ∈ zbB then 2 else if a.toNat ∈ zbt then 1 else 0
def zaI : List UInt8 -> Int -> Option Int
  | [], n => some n
  | b :: r, n => if zaG b = false then none else if n > (9223372036854775807 - ((b.toNat : Int) - 48)) / 10 then none else zaI r (10 * n + ((b.toNat : Int) - 48))
def zaS (l : List UInt8) : Option Int := if 1 < l.length /\ (l.head?.map UInt8.toNat) = some 48 then none else zaI l 0
def zaK (go : List UInt8 -> Int -> Int -> LexR) : List UInt8 -> Int -> Int -> LexR
  | [], l, c => .ok [⟨4, [], 0, l, c⟩]
  | b :: r, l, c =>
    if zaH b = true then
      if 24 < ((b :: r).takeWhile zaf).length then .err l c 111 else (go ((b :: r).drop ((b :: r).takeWhile zaf).length) l (c + ((b :: r).takeWhile zaf).length)).cons ⟨1, (b :: r).takeWhile zaf, 0, l, c⟩
    else if zaG b = true then
      match zaS ((b :: r).takeWhile zaf) with
      | none => .err l c 112
      | some n => (go ((b :: r).drop ((b :: r).takeWhile zaf).length) l (c + ((b :: r).takeWhile zaf).length)).cons ⟨2, (b :: r).takeWhile zaf, n, l, c⟩
    else if zag (b :: r) = 0 then .err l c 110
    else (go ((b :: r).drop (zag (b :: r))) l (c + zag (b :: r))).cons ⟨3, (b :: r).take (zag (b :: r)), 0, l, c⟩
def zbr : Nat -> List UInt8 -> Int -> Int -> LexR
  | 0, _, l, c => .err l c 0
  | f + 1, bs, line, col => zaK (zbr f) (zam bs false line col).1 (zam bs false line col).2.1 (zam bs false line col).2.2
def LexR.pre (ts : List Tok) : LexR -> LexR
  | .ok l => .ok (ts ++ l)
  | .err a b c => .err a b c
theorem LexR.pre_cons(ts:List Tok)(t:Tok)(r:LexR):(r.cons t).pre ts=r.pre (ts++[t]):=by
 cases r <;> simp[LexR.cons,LexR.pre]
theorem LexR.pre_nil(r:LexR):r.pre []=r:=by cases r <;> rfl
theorem zdF{b:UInt8}{r:List UInt8}{d:Bool}{l c:Int}(h:b.toNat=10):zam (b::r) d l c=zam r false (l+1) 1:=by rw[zam,yP h]
theorem zfj{b:UInt8}{r:List UInt8}{l c:Int}(h:b.toNat≠10):zam (b::r) true l c=zam r true l (c+1):=by rw[zam,yN h,yP rfl]
theorem zdG{b:UInt8}{r:List UInt8}{l c:Int}(h:b.toNat=32∨b.toNat=9):zam (b::r) false l c=zam r false l (c+1):=by
 rw[zam,yN (by omega),yN (by decide),yP h]
theorem zgK{b:UInt8}{r:List UInt8}{l c:Int}(h:b.toNat=35):zam (b::r) false l c=zam r true l (c+1):=by
 rw[zam,yN (by omega),yN (by decide),yN (by omega),yP h]
theorem zcu{b:UInt8}{r:List UInt8}{l c:Int}(f:b.toNat≠10)(g:b.toNat≠32)(i:b.toNat≠9)(d:b.toNat≠35):zam (b::r) false l c=(b::r,l,c):=by
 rw[zam,yN f,yN (by decide),yN (by omega),yN d]
theorem zml{d:Bool}{l c:Int}:zam [] d l c=([],l,c):=rfl
theorem zfI{d:List UInt8}{l c:Int}(h:d=[]∨∃b r,d=b::r/\b.toNat=10):zam d true l c=zam d false l c:=by
 rcases h with rfl|⟨b,r,rfl,h⟩
 ·rfl
 ·rw[zdF h,zdF h]
theorem zhn{p:UInt8->Bool}{l:List UInt8}{n:Nat}(i:n<=l.length)(g:∀(j:Nat) (h:j<l.length),j<n->p l[j]=true)(f:∀h:n<l.length,p l[n]=false):l.takeWhile p=l.take n:=by
 induction l generalizing n with
 | nil=>simp
 | cons b l ih =>
  cases n with
  | zero =>
   have:=f (by simp);simp at this
   simp[this]
  | succ n =>
   have d:=g 0 (by simp) (by omega);simp at d;rw[List.takeWhile_cons,yP d,List.take_succ_cons,ih (by simpa using i) (fun j h hj=>by have:=g (j+1) (by simpa using h) (by omega);simpa using this) (fun h=>by have:=f (by simpa using h);simpa using this)]
def lexS (bs : List UInt8) : LexR := if 16384 < bs.length then .err 0 0 3 else zbr (bs.length + 1) bs 1 1
theorem zc1(b:Int)(w:World):Calls Tryz.prog 80 #[.int .u8 b] w fun e w'=>e=.returned (.bool (zaV b))/\w=w':=by
 obtain⟨i,g,d,f,j,q,u,m,y,v,l⟩:∃i g d f j:Bool,decide (b >= 97)=i/\decide (b<=122)=g/\decide (b >= 65)=d/\decide (b<=90)=f/\(b==95)=j/\zaV b=((i&&g)||((d&&f)||j)):=⟨_,_,_,_,_,rfl,rfl,rfl,rfl,rfl,rfl⟩;rw[l];clear l;cases i <;> cases g <;> cases d <;> cases f <;> cases j
 all_goals
  go_enter Tryz.func80,Tryz.ntmps80
  go_wp2;go_ret;exact⟨rfl,rfl⟩
theorem zcP(b:Int)(w:World):Calls Tryz.prog 81 #[.int .u8 b] w fun e w'=>e=.returned (.bool (za9 b))/\w=w':=by
 obtain⟨f,d,i,j,g⟩:∃f d:Bool,decide (b >= 48)=f/\decide (b<=57)=d/\za9 b=(f&&d):=⟨_,_,rfl,rfl,rfl⟩;rw[g];clear g;cases f <;> cases d
 all_goals
  go_enter Tryz.func81,Tryz.ntmps81
  go_wp2;go_ret;exact⟨rfl,rfl⟩
theorem zfw{b:UInt8}(h:zaG b=true):48<=(b.toNat:Int)/\(b.toNat:Int)<=57:=by
 unfold zaG za9 at h;simpa[yC] using h
theorem zaq(s:ByteArray):s.data.toList.length=s.size:=Array.length_toList
theorem zdH(s:ByteArray)(k:Nat)(h:k<s.size):s.data.toList[k]'(by rw[zaq];exact h)=s[k]:=rfl
def numE : Option Int -> Ending
  | none => .returned (.tuple #[.int .i64 0, .bool false])
  | some n => .returned (.tuple #[.int .i64 n, .bool true])
theorem zeX{l:List UInt8}{k:Nat}(d:k<l.length)(n:Int):zaI (l.drop k) n=if zaG l[k]=false then none else if n>(9223372036854775807-((l[k].toNat:Int)-48))/10 then none else zaI (l.drop (k+1)) (10*n+((l[k].toNat:Int)-48)):=by
 rw[List.drop_eq_getElem_cons d,zaI]
theorem zg2 (s:ByteArray) (w:World) (Y:s.size<=9223372036854775807) :
  Calls Tryz.prog 110 #[.string s] w fun e w'=>e=numE (zaS s.data.toList)/\w=w':=by
 have m:=zh (zaq s);have C:Hid (∀(k:Nat) (h:k<s.size),s.data.toList[k]'(by rw[zaq];exact h)=s[k]):=zh (zdH s);by_cases R:1<s.size
 ·have T:0 < s.size:=by omega
  have S:s.data.toList.head?.map UInt8.toNat=some s[0].toNat:=by
   have e:=C.out 0 T;rw[List.head?_eq_getElem?,yD (by rw[m.out];exact T),e];rfl
  have J:(1:Int)<s.size:=by omega
  obtain⟨q,A,z⟩:∃q:Bool,((s[0].toNat:Int)==48)=q/\(q=true ↔ s[0].toNat=48):=⟨_,rfl,by rw[beq_iff_eq];omega⟩
  have U:Hid (zaS s.data.toList=if q=true then none else zaI s.data.toList 0):=zh (by
   unfold zaS;rw[S,m.out];by_cases e:s[0].toNat=48
   ·rw[yP ⟨R,by rw[e]⟩,yP (z.2 e)]
   ·rw[yN (fun h=>e (by simpa using h.2)),yN (fun h=>e (z.1 h))])
  clear S z;cases q
  ·have v:Hid (zaS s.data.toList=zaI s.data.toList 0):=zh (by rw [U.out,yN (by simp)]);go_enter Tryz.func110,Tryz.ntmps110
   go_wp2;go_loopw [2,3,4,5,6,15,16,17,18,19,20,21,22,23,24,25,26,27,28,29,30,31,32,33,34,35,36,37,38,39] (fun _ _ t4 t5 _ _ _ _ _ _ _ _ _ _ _ _ _ _ _ _ _ _ _ _ _ _ _ _ _ _ wr=>∃(k:Nat) (n:Int),k<=s.size/\t5=.int .i64 k/\t4=.int .i64 n/\0<=n/\n<=9223372036854775807/\Hid (zaI s.data.toList 0=zaI (s.data.toList.drop k) n)/\wr=w) (fun _ _ _ t5 _ _ _ _ _ _ _ _ _ _ _ _ _ _ _ _ _ _ _ _ _ _ _ _ _ _ _=>s.size-(intOf t5).toNat)
   case atStart=>exact⟨0,0,by omega,rfl,rfl,by omega,by omega,zh rfl,rfl⟩
   case round =>
    obtain⟨k,n,X,rfl,rfl,G,O,j,rfl⟩:=hrel;by_cases i:k<s.size
    ·have f:=zh (zeX (l:=s.data.toList) (k:=k) (by rw[zaq];exact i) n);have u:Hid (zaG s[k]=true->48<=(s[k].toNat:Int)/\(s[k].toNat:Int)<=57):=zh zfw;rw[zdH s k i] at f;have y:=zh (zcP (s[k].toNat:Int) wr);have g:Hid (zaG s[k]=za9 (s[k].toNat:Int)):=zh rfl;have L:s[k].toNat<=255:=by have:=s[k].toNat_lt;omega
     obtain⟨q,A⟩:∃q:Bool,za9 (s[k].toNat:Int)=q:=⟨_,rfl⟩;rw[A] at y g;clear A;cases q
     ·go_wp2_with (go_at_call 81;refine y.out.mono ?_;rintro e w2⟨rfl,rfl⟩)
      go_ret2;refine⟨?_,rfl⟩;have e:zaS s.data.toList=none:=by rw[v.out,j.out,f.out,yP g.out]
      rw[e];rfl
     ·obtain⟨W,V⟩:=u.out g.out
      generalize hx:s[k]=x at *
      obtain⟨d,N⟩:∃d:Int,(x.toNat:Int)-48=d:=⟨_,rfl⟩;rw[N] at f;have K:0<=d:=by omega
      have Q:d<=9:=by omega
      go_wp2_with (go_at_call 81;refine y.out.mono ?_;rintro e w2⟨rfl,rfl⟩)
      ·have h:(9223372036854775807-d)/10<n:=by assumption
       have M:=zh h;clear h;go_ret2;refine⟨?_,rfl⟩
       have e:zaS s.data.toList=none:=by
        rw[v.out,j.out,f.out,yN (by rw[g.out];simp),yP (show n>_ from M.out)]
       rw[e];rfl
      ·have h:n<=(9223372036854775807-d)/10:=by assumption
       have B:10*n+d<=9223372036854775807:=by omega
       have F:0<=10*n+d:=by omega
       have D:¬n>(9223372036854775807-d)/10:=by omega
       have H:=zh B;have I:=zh F;have P:=zh D;clear h B F D;go_roundw
       case rel=>exact⟨k+1,10*n+d,by omega,by go_num,rfl,I.out,H.out,zh (by rw[j.out,f.out,yN (by rw[g.out];simp),yN P.out]),by first|rfl|trivial⟩
       case measure=>simp[intOf];omega
    ·obtain rfl:k=s.size:=by omega
     have E:¬(s.size:Int)<s.size:=by omega
     go_wp2;go_ret2;refine⟨?_,rfl⟩
     have e:zaS s.data.toList=some n:=by
      rw[v.out,j.out,List.drop_of_length_le (by rw[zaq];omega),zaI]
     rw[e];rfl
  ·go_enter Tryz.func110,Tryz.ntmps110
   go_wp2;go_ret2;refine⟨?_,rfl⟩;have e:zaS s.data.toList=none:=by rw[U.out];simp
   rw[e];rfl
 ·have J:¬ (1:Int) < s.size:=by omega
  have v:Hid (zaS s.data.toList=zaI s.data.toList 0):=zh (by rw[zaS,yN (fun h=>by rw[zaq] at h;exact R h.1)]);go_enter Tryz.func110,Tryz.ntmps110
  go_wp2;go_loopw [2,3,4,5,6,15,16,17,18,19,20,21,22,23,24,25,26,27,28,29,30,31,32,33,34,35,36,37,38,39] (fun _ _ t4 t5 _ _ _ _ _ _ _ _ _ _ _ _ _ _ _ _ _ _ _ _ _ _ _ _ _ _ wr=>∃(k:Nat) (n:Int),k<=s.size/\t5=.int .i64 k/\t4=.int .i64 n/\0<=n/\n<=9223372036854775807/\Hid (zaI s.data.toList 0=zaI (s.data.toList.drop k) n)/\wr=w) (fun _ _ _ t5 _ _ _ _ _ _ _ _ _ _ _ _ _ _ _ _ _ _ _ _ _ _ _ _ _ _ _=>s.size-(intOf t5).toNat)
  case atStart=>exact⟨0,0,by omega,rfl,rfl,by omega,by omega,zh rfl,rfl⟩
  case round =>
   obtain⟨k,n,X,rfl,rfl,G,O,j,rfl⟩:=hrel;by_cases i:k<s.size
   ·have f:=zh (zeX (l:=s.data.toList) (k:=k) (by rw[zaq];exact i) n);have u:Hid (zaG s[k]=true->48<=(s[k].toNat:Int)/\(s[k].toNat:Int)<=57):=zh zfw;rw[zdH s k i] at f;have y:=zh (zcP (s[k].toNat:Int) wr);have g:Hid (zaG s[k]=za9 (s[k].toNat:Int)):=zh rfl;have L:s[k].toNat<=255:=by have:=s[k].toNat_lt;omega
    obtain⟨q,A⟩:∃q:Bool,za9 (s[k].toNat:Int)=q:=⟨_,rfl⟩;rw[A] at y g;clear A;cases q
    ·go_wp2_with (go_at_call 81;refine y.out.mono ?_;rintro e w2⟨rfl,rfl⟩)
     go_ret2;refine⟨?_,rfl⟩;have e:zaS s.data.toList=none:=by rw[v.out,j.out,f.out,yP g.out]
     rw[e];rfl
    ·obtain⟨W,V⟩:=u.out g.out
     generalize hx:s[k]=x at *
     obtain⟨d,N⟩:∃d:Int,(x.toNat:Int)-48=d:=⟨_,rfl⟩;rw[N] at f;have K:0<=d:=by omega
     have Q:d<=9:=by omega
     go_wp2_with (go_at_call 81;refine y.out.mono ?_;rintro e w2⟨rfl,rfl⟩)
     ·have h:(9223372036854775807-d)/10<n:=by assumption
      have M:=zh h;clear h;go_ret2;refine⟨?_,rfl⟩
      have e:zaS s.data.toList=none:=by
       rw[v.out,j.out,f.out,yN (by rw[g.out];simp),yP (show n>_ from M.out)]
      rw[e];rfl
     ·have h:n<=(9223372036854775807-d)/10:=by assumption
      have B:10*n+d<=9223372036854775807:=by omega
      have F:0<=10*n+d:=by omega
      have D:¬n>(9223372036854775807-d)/10:=by omega
      have H:=zh B;have I:=zh F;have P:=zh D;clear h B F D;go_roundw
      case rel=>exact⟨k+1,10*n+d,by omega,by go_num,rfl,I.out,H.out,zh (by rw[j.out,f.out,yN (by rw[g.out];simp),yN P.out]),by first|rfl|trivial⟩
      case measure=>simp[intOf];omega
   ·obtain rfl:k=s.size:=by omega
    have E:¬(s.size:Int)<s.size:=by omega
    go_wp2;go_ret2;refine⟨?_,rfl⟩
    have e:zaS s.data.toList=some n:=by
     rw[v.out,j.out,List.drop_of_length_le (by rw[zaq];omega),zaI]
    rw[e];rfl
end Go.Proofs.YtoaojdobjinhfaaGreatDoor
