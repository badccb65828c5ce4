/- Parts. -/
import Derived.Test.YtakmdjclehkglaaGreatDoorQauc
import Derived.Lib.RuneCount
import Derived.Lib.TrimU
import Derived.Laws.StructEq
import Derived.Laws.Cover3
import Derived.Maps.AppendAt
import Derived.Laws.Pointers
set_option linter.all false
set_option maxRecDepth 4000
section
namespace bb
open Go Go.RowKit
structure wX(p:Prop):Prop where out:p
theorem az{A B:Prop}(k:B)(h:wX B->A:=by
 intro q
 (repeat' first
 | assumption
 | exact Ext.refl _
 | refine Ext.trans ?_ (by assumption)
 | refine Q_ (by omega) ?_
 | refine _K (by assumption) ?_ rfl ?_
 | refine _D (by assumption) ?_ rfl ?_
 | refine _O (by assumption) ?_ (by omega) rfl ?_
 | refine _P (by assumption) ?_ (by omega) rfl ?_
 | refine _Q (by assumption) ?_ (by omega) rfl ?_
 | refine _T (by omega) ?_
 | refine _R (by first | assumption | omega) ?_
 | refine _S (by first | assumption | omega) ?_
 | refine _G (by assumption) ?_
 | refine _H (by assumption) ?_
 | simp -dsimp only[c0,cB,Nat.reduceAdd,Nat.reduceEqDiff,reduceIte,reduceCtorEq,dd])
 exact q.out):A:=h ⟨k⟩
theorem dm{F A B:Prop}(f:F)(k:B)(h:F->wX B->A:=by
 intro f q
 (repeat' first
 | assumption
 | exact Ext.refl _
 | refine Ext.trans ?_ (by assumption)
 | refine Q_ (by omega) ?_
 | refine _K (by assumption) ?_ rfl ?_
 | refine _D (by assumption) ?_ rfl ?_
 | refine _O (by assumption) ?_ (by omega) rfl ?_
 | refine _P (by assumption) ?_ (by omega) rfl ?_
 | refine _Q (by assumption) ?_ (by omega) rfl ?_
 | refine _T (by omega) ?_
 | refine _R (by first | assumption | omega) ?_
 | refine _S (by first | assumption | omega) ?_
 | refine _G (by assumption) ?_
 | refine _H (by assumption) ?_
 | simp -dsimp only[c0,cB,Nat.reduceAdd,Nat.reduceEqDiff,reduceIte,reduceCtorEq,dd,f])
 exact q.out):A:=h f ⟨k⟩
theorem qv{A B:Prop}(k:B)(h:wX B->A:=by
 intro q
 (repeat' first
 | assumption
 | exact Ext.refl _
 | refine Ext.trans ?_ (by assumption)
 | refine Q_ (by omega) ?_
 | refine _K (by assumption) ?_ rfl ?_
 | refine _D (by assumption) ?_ rfl ?_
 | refine _O (by assumption) ?_ (by omega) rfl ?_
 | refine _P (by assumption) ?_ (by omega) rfl ?_
 | refine _Q (by assumption) ?_ (by omega) rfl ?_
 | refine _T (by omega) ?_
 | refine _R (by first | assumption | omega) ?_
 | refine _S (by first | assumption | omega) ?_
 | refine _G (by assumption) ?_
 | refine _H (by assumption) ?_
 | simp -dsimp only[c0,Nat.reduceAdd,Nat.reduceEqDiff,reduceIte,reduceCtorEq,dd])
 exact q.out):A:=h ⟨k⟩
theorem cg{F A B:Prop}(f:F)(k:B)(h:F->wX B->A:=by
 intro f q;simp -dsimp only[c0,cB,Nat.reduceAdd,Nat.reduceEqDiff,reduceIte,reduceCtorEq,dd,f];exact q.out):A:=h f ⟨k⟩
def uL:C_ (Nat×B_)->Fr->Fr
 | [],S=>S
 | p :: r,S=>bW (uL r S) p.1 p.2
theorem wF(S:Fr):uL [] S=S:=eq_of_heq (HEq.refl _)
theorem wE(t:Nat)(v:B_)(r:C_ (Nat×B_))(S:Fr):uL ((t,v) :: r) S=bW (uL r S) t v:=eq_of_heq (HEq.refl _)
def Has(S:Fr):C_ (Nat×B_)->Prop
 | []=>True
 | p :: r=>S p.1=p.2/\Has S r
theorem vB(S:Fr):Has S []=True:=propext Iff.rfl
theorem vA(S:Fr)(t:Nat)(v:B_)(r:C_ (Nat×B_)):Has S ((t,v) :: r)=(S t=v/\Has S r):=propext Iff.rfl
theorem FF{S:Fr}:∀L,Has S L->uL L S=S
 | [],_=>rfl
 | p :: r,h=>by
  show bW (uL r S) p.1 p.2=S;rw[FF r h.2];exact jJ S _ _ h.1
def uu(S:Fr):C_ Nat->Fr->Fr
 | [],aX=>aX
 | t :: r,aX=>bW (uu S r aX) t (S t)
theorem wc(S aX:Fr):uu S [] aX=aX:=eq_of_heq (HEq.refl _)
theorem wb(S aX:Fr)(t:Nat)(r:C_ Nat):uu S (t :: r) aX=bW (uu S r aX) t (S t):=eq_of_heq (HEq.refl _)
theorem EU{S aX:Fr}:∀cz:C_ Nat,(∀t∈cz,aX t=S t)->uu S cz aX=aX
 | [],_=>rfl
 | t :: r,h=>by
  show bW (uu S r aX) t (S t)=aX;rw[EU r fun u hu=>h u (by simp[hu])];exact jJ aX _ _ (h t (by simp))
theorem bc{p:Prop}(h:p:=by first | trivial | rfl | exact⟨rfl,trivial⟩ | (simp -dsimp only[c0,wF,wE,wc,wb,vB,vA,Nat.reduceAdd,Nat.reduceEqDiff,reduceIte,and_self];done) | (simp -dsimp only[c0,wF,wE,wc,wb,vB,vA,Nat.reduceAdd,Nat.reduceEqDiff,reduceIte,and_self];exact⟨rfl,trivial⟩)):p:=h
theorem Ki{ds cz:C_ Nat}(h:(cz.all fun t => !ds.contains t)=true):∀t∈cz,ds.contains t=false:=fun t aB=>by
 have:=List.all_eq_true.1 h t aB
 simpa using this
theorem al6{p:Nat->Prop}:∀n,p n->∃m,p m/\∀k,p k->m<=k:=fun n=>by
 induction n using Nat.strongRecOn with
 | _ n eS =>
  intro h;by_cases hm:∃k,k<n/\p k
  .obtain⟨k,hk,ar⟩:=hm;exact eS k hk ar
  .exact⟨n,h,fun k hk=>Nat.le_of_not_lt fun ch=>hm ⟨k,ch,hk⟩⟩
noncomputable def least(p:Nat->Prop):Nat:=open Classical in if h:∃m,p m/\∀k,p k->m<=k then h.choose else 0
theorem ZD{p:Nat->Prop}(h:∃n,p n):p (least p)/\∀k,p k->least p<=k:=by
 obtain⟨n,ay⟩:=h;have hm:=al6 n ay;unfold least;rw[dif_pos hm];exact hm.choose_spec
section
variable{P:Program}{Q:ed->Fr->World->Prop}{S:Fr}{w:World}
theorem L_{β:Type}{b:eC}{t}(i N:Nat)(cz:C_ Nat)(M:β->C_ (Nat×B_))(ml:β)(iO:Nat->β->A_->Prop)(N5:S i = .int .i64 0)(a1:Has S (M ml))(af:iO 0 ml w)
  (aL:∀(k:Nat) x aX w',k<=N->iO k x w' ->
   dO P b (hY (fun fE bK=>k<N/\fE i = .int .i64 ((k:Int)+1)/\∃Am,Has fE (M Am)/\iO (k+1) Am bK) Q ⟨⟩) (uL (M x) (bW (uu S cz aX) i (.int .i64 k))) w' ⟨⟩)
  (a6:(cz.all fun t => !b.fG.contains t)=true:=by rfl):yB P b Q S w t:=by
 refine _i i N (fun k S w => ∃x,Has S (M x)/\iO k x w) N5 ⟨ml,a1,af⟩ ?_;rintro k aX w' bZ hk U ⟨x,DU,qJ⟩;have h:=aL k x aX w' hk qJ;rw[EU cz fun t aB=>bZ t (Ki a6 t aB),jJ aX i _ U,FF _ DU] at h;exact h
theorem S_{β:Type}{a b:eC}{t}(cz:C_ Nat)(M:β->C_ (Nat×B_))(N:β->A_->Prop)(h1:dO P a (hY (fun fE bK => ∃x,Has fE (M x)/\N x bK) Q ⟨⟩) S w ⟨⟩)
  (I:∀x aX w',N x w'->dO P b Q (uL (M x) (uu S cz aX)) w' ⟨⟩)(a6:(cz.all fun t => !a.fG.contains t)=true:=by rfl):dO P (.seq a b) Q S w t:=by
 refine _s _ h1 ?_;rintro aX w' bZ ⟨x,a1,fV⟩;have h:=I x aX w' fV;rw[EU cz fun t aB=>bZ t (Ki a6 t aB),FF _ a1] at h;exact h
theorem _W{β:Type}{b:eC}{t}(cz:C_ Nat)(M:β->C_ (Nat×B_))(ml:β)(iO:β->A_->Prop)(kc:β->Nat)(a1:Has S (M ml))(af:iO ml w)
  (aL:∀x aX w',iO x w' ->
   dO P b (hY (fun fE bK => ∃Am,Has fE (M Am)/\iO Am bK/\kc Am<kc x) Q ⟨⟩) (uL (M x) (uu S cz aX)) w' ⟨⟩)
  (a6:(cz.all fun t => !b.fG.contains t)=true:=by rfl):yB P b Q S w t:=by
 refine Z_ (fun S w => ∃x,Has S (M x)/\iO x w) (fun S w=>least fun n => ∃x,Has S (M x)/\iO x w/\kc x=n) ⟨ml,a1,af⟩ ?_;rintro aX w' bZ ⟨x,DU,qJ⟩;obtain⟨⟨y,h1,I,ab⟩,aD⟩:=ZD (p:=fun n => ∃x,Has aX (M x)/\iO x w'/\kc x=n) ⟨kc x,x,DU,qJ,rfl⟩;have h:=aL y aX w' I;rw[EU cz fun t aB=>bZ t (Ki a6 t aB),FF _ h1] at h;unfold dO hY at *;refine pz b _ _ aX w' (fun e fE bK _ h=>?_) h
 match e,h with
 | .normal,⟨z,cC,cS,eT⟩ =>
  refine⟨⟨z,cC,cS⟩,?_⟩;have aY:=(ZD (p:=fun n => ∃x,Has fE (M x)/\iO x bK/\kc x=n) ⟨kc z,z,cC,cS,rfl⟩).2 (kc z) ⟨z,cC,cS,rfl⟩;show least _<least _;rw[<-ab];omega
 | .exit _,h=>exact h
 | .ret,h=>exact h
 | .gf _,h=>exact h
end
end bb
end
section
namespace o
open Go
def letter(n:Int):Bool:=decide (97<=n/\n<=122\/65<=n/\n<=90)
def digit(n:Int):Bool:=decide (48<=n/\n<=57)
def part(n:Int):Bool:=letter n||digit n||decide (n=95)
def sF(s:ByteArray)(i:Nat):Nat:=(s.get! i).toNat
def run(p:Int->Bool)(s:ByteArray):Nat:=(s.data.toList.takeWhile fun b=>p b.toNat).length
theorem abK{α:Type}(p:α->Bool):∀(l:C_ α) (n:Nat) (h:n<l.length),(∀j (aE:j<n),p (l[j]'(by omega))=true)->p l[n]=false->(l.takeWhile p).length=n
 | [],n,h,_,_=>by simp at h
 | x :: l,0,h,_,I=>by simp at I;simp[I]
 | x :: l,n+1,h,h1,I=>by
  have ag:p x=true:=h1 0 (by omega);rw[List.takeWhile_cons,if_pos ag,List.length_cons,abK p l n (by simpa using h) (fun j aE=>h1 (j+1) (by omega)) (by simpa using I)]
theorem abJ{α:Type}(p:α->Bool):∀(l:C_ α) (_:∀j (aE:j<l.length),p l[j]=true),(l.takeWhile p).length=l.length
 | [],_=>rfl
 | x :: l,h=>by
  have ag:p x=true:=h 0 (by simp);rw[List.takeWhile_cons,if_pos ag,List.length_cons,abJ p l (fun j aE=>h (j+1) (by simpa using aE)),List.length_cons]
theorem abf(p:Int->Bool)(s:ByteArray)(n:Nat)(h:n<s.size)(h1:∀j (aE:j<n),p (s[j]'(by omega)).toNat=true)(I:p s[n].toNat=false):run p s=n :=
 abK (fun b:UInt8=>p b.toNat) s.data.toList n (by simpa using h) (fun j aE=>h1 j aE) I
theorem aa7(p:Int->Bool)(s:ByteArray)(h:∀j (aE:j<s.size),p s[j].toNat=true):run p s=s.size:=by
 have:=abJ (fun b:UInt8=>p b.toNat) s.data.toList (fun j aE=>h j (by simpa using aE))
 rw[run,this];simp
theorem ae7{p:Int->Bool}(ar:∀r:Int,128<=r->p r=false)(s:ByteArray)(pos:Nat)(h:pos<s.size) :
  p (Utf8.decode s pos).1=p s[pos].toNat/\(p s[pos].toNat=true->(Utf8.decode s pos).2=1):=by
 by_cases aV:s[pos].toNat<128
 .rw[decode_ascii s pos h aV];exact⟨rfl,fun _=>rfl⟩
 .have h1:=decode_high s pos h (by omega);rw[ar _ (by omega),ar _ (by omega)];exact⟨rfl,fun h=>by simp at h⟩
theorem alL(r:Int)(h:128<=r):letter r=false:=by simp[letter];omega
theorem afd(r:Int)(h:128<=r):digit r=false:=by simp[digit];omega
theorem anu(r:Int)(h:128<=r):part r=false:=by simp[part,alL r h,afd r h];omega
instance atg:LawfulBEq ByteArray where
 eq_of_beq {a b} h:=by rw[bb.Df] at h;exact of_decide_eq_true h
 rfl {a}:=by rw[bb.Df];exact decide_eq_true rfl
def qZ:C_ ByteArray:=[⟨#[115,101,108,102]⟩,⟨#[110,111,110,101]⟩,⟨#[108,101,110]⟩,⟨#[97,116]⟩]
def isName(s:ByteArray):Bool:=decide (s.size≠0)&&decide (s.size<=16)&&letter (sF s 0)&&decide (run part s=s.size) && !decide (s∈qZ)
theorem ao2(p:Int->Bool)(s:ByteArray):run p s<=s.size:=by
 have:=(List.takeWhile_sublist (fun b:UInt8=>p b.toNat) (l:=s.data.toList)).length_le
 simpa[run] using this
theorem get_eq(s:ByteArray)(i:Nat)(h:i<s.size):s.get! i=s[i]:=by
 obtain⟨d⟩:=s;show d[i]! = d[i];exact getElem!_pos d i h
theorem get?_eq(s:ByteArray)(i:Nat)(h:i<s.size):s[i]? = some (s.get! i):=by rw[get_eq s i h];exact getElem?_pos s i h
structure Scalar where
 name:ByteArray
 size:Int
structure Var where
 name:ByteArray
 scalar:Int
 over:Int
 aO:Int
 U:Int
 init:Int
structure dv where
 name:ByteArray
 scalar:Int
 cap:Int
 aO:Int
 U:Int
 ZL:Bool
def size(k:Int)(s:C_ Scalar):Int :=
 match s[(k - 1).toNat]? with
 | some x=>if 1<=k/\1<=x.size/\x.size<=4 then x.size else 0
 | none=>0
def narrow(aO U:Int):Bool:=decide (-1048576<=aO/\aO<=U/\U<=1048576/\U - aO<256)
def there(k:Int)(s:C_ Scalar):Bool:=decide (k=0\/size k s≠0)
def err(fC:Int)(fR:Nat->ByteArray)(mo:Nat->Int)(i:Nat):Int :=
 if fC<=i then 11 else if isName (fR i)=false then 6 else if ∃j,j<i/\fR j=fR i then 7 else mo i
def first(n:Nat)(e:Nat->Int):Int×Int:=match (List.range n).find? (fun i=>decide (e i≠0)) with | some i=>((i:Int),e i) | none=>(0,0)
theorem ji{n:Nat}{e:Nat->Int}{i:Nat}(U:i<n)(h1:∀j,j<i->e j=0)(I:e i≠0):first n e=((i:Int),e i):=by
 have:(List.range n).find? (fun i=>decide (e i≠0))=some i:=by
  rw[List.find?_range_eq_some];simp only[decide_eq_true_eq];exact⟨I,by simpa using U,fun j aE=>by simp[h1 j aE]⟩
 rw[first,this]
theorem pa{n:Nat}{e:Nat->Int}(h:∀j,j<n->e j=0):first n e=(0,0):=by
 have:(List.range n).find? (fun i=>decide (e i≠0))=none:=by
  rw[List.find?_range_eq_none];intro j aE;simp[h j aE]
 rw[first,this]
theorem We{n:Nat}{e e':Nat->Int}(h:∀j,j<n->e j=e' j):first n e=first n e':=by
 by_cases ag:∃i,i<n/\e i≠0/\∀j,j<i->e j=0
 .obtain⟨i,U,h1,I⟩:=ag;rw[ji U I h1,ji U (fun j aE=>by rw[<-h j (by omega)];exact I j aE) (by rw[<-h i U];exact h1),h i U]
 .have bA:∀j,j<n->e j=0:=by
   intro j
   induction j using Nat.strongRecOn with
   | _ j eS =>
    intro aE;by_cases af:e j=0
    .exact af
    .exact absurd ⟨j,aE,af,fun k hk=>eS k hk (by omega)⟩ ag
  rw[pa bA,pa fun j aE=>by rw[<-h j aE];exact bA j aE]
def nameAt{α:Type}(f:α->ByteArray)(l:C_ α)(i:Nat):ByteArray:=(l[i]?.map f).getD ⟨#[]⟩
def uI(l:C_ Scalar)(i:Nat):Int:=match l[i]? with | some x=>if 1<=x.size/\x.size<=4 then 0 else 10 | none=>0
def scalars(l:C_ Scalar):Int×Int:=first l.length (err 2 (nameAt (·.name) l) (uI l))
def bounds(v:Var)(s:C_ Scalar):Int×Int:=if v.scalar=0 then (v.aO,v.U) else (0,size v.scalar s)
def cells(v:Var)(s:C_ Scalar):Int:=if v.over=0 then 1 else size v.over s
def py(l:C_ Var)(s:C_ Scalar)(i:Nat):Int :=
 match l[i]? with
 | some v=>if there v.scalar s=false\/there v.over s=false then 8
  else if (v.scalar=0/\narrow v.aO v.U=false)\/v.init<(bounds v s).1\/v.init > (bounds v s).2 then 10 else 0
 | none=>0
def vars(l:C_ Var)(s:C_ Scalar)(fC:Int):Int×Int:=first l.length (err (max fC 0) (nameAt (·.name) l) (py l s))
def o7(l:C_ dv)(s:C_ Scalar)(i:Nat):Int :=
 match l[i]? with
 | some c=>if there c.scalar s=false then 8
  else if c.cap<1\/c.cap > 4\/(c.scalar=0/\narrow c.aO c.U=false) then 10 else 0
 | none=>0
def aw(l:C_ dv)(s:C_ Scalar):Int×Int:=first l.length (err 4 (nameAt (·.name) l) (o7 l s))
end o
end
section
namespace o
open Go Go.RowKit bb
def Scalar.enc(x:Scalar):C_ B_:=[.string x.name,.int .i64 x.size]
def Var.enc(x:Var):C_ B_:=[.string x.name,.int .i64 x.scalar,.int .i64 x.over,.int .i64 x.aO,.int .i64 x.U,.int .i64 x.init]
def dv.enc(x:dv):C_ B_:=[.string x.name,.int .i64 x.scalar,.int .i64 x.cap,.int .i64 x.aO,.int .i64 x.U,.bool x.ZL]
def jo(s:ByteArray):Prop:=s.size<=9223372036854775807
instance atw(s:ByteArray):Decidable (jo s):=Nat.decLe _ _
structure jO(w:World)(a:Addr)(x:Scalar):Prop where
 cells:e0 w a x.enc
 ok:jo x.name
structure qs(w:World)(a:Addr)(x:Var):Prop where
 cells:e0 w a x.enc
 ok:jo x.name
structure qq(w:World)(a:Addr)(x:dv):Prop where
 cells:e0 w a x.enc
 ok:jo x.name
theorem jO.ext(w w':A_)(a:Addr)(x:Scalar)(he:Ext w w')(h:jO w a x):jO w' a x:=⟨h.cells.ext he,h.ok⟩
theorem qs.ext(w w':A_)(a:Addr)(x:Var)(he:Ext w w')(h:qs w a x):qs w' a x:=⟨h.cells.ext he,h.ok⟩
theorem qq.ext(w w':A_)(a:Addr)(x:dv)(he:Ext w w')(h:qq w a x):qq w' a x:=⟨h.cells.ext he,h.ok⟩
abbrev h2(w:A_)(v:B_)(l:C_ Scalar):Prop:=bh 2 jO w v l
abbrev hP(w:A_)(v:B_)(l:C_ Var):Prop:=bh 6 qs w v l
abbrev mS(w:A_)(v:B_)(l:C_ dv):Prop:=bh 6 qq w v l
theorem hP.cu{w:A_}{b n:Nat}{e:F_}{f:Nat×Nat}{xs:C_ Var}(ak:w.heap[b]? = some (.cells (xs.flatMap Var.enc).toArray e f))(ay:n=xs.length)(hm:xs.length<=maxLen)(di:∀x∈xs,jo x.name) :
  hP w (.slice (some ⟨b,0,none⟩) n n) xs:=bh.cu (enc:=Var.enc) (fun _=>rfl) ak ay hm fun _ x ag ah=>⟨ah,di x ag⟩
structure Node where
 op:Int
 n:Int
structure Act where
 kind:Int
 to:Int
 loc:Int
 index:List Node
 value:List Node
structure dI where
 name:ByteArray
 from_:Int
 to:Int
 guard:List Node
 bY:List Act
 fair:Bool
structure dz where
 name:ByteArray
 over:Int
 b8:Int
 vars:List Var
 cL:List dI
structure k0 where
 name:ByteArray
 expr:List Node
structure Model where
 scalars:List Scalar
 vars:List Var
 aw:List dv
 procs:List dz
 props:List k0
structure cZ where
 proc:Int
 elem:Int
deriving DecidableEq
structure Ref where
 inst:Int
 cmd:Int
deriving DecidableEq
def cZ.enc(x:cZ):C_ B_:=[.int .i64 x.proc,.int .i64 x.elem]
def Ref.enc(x:Ref):C_ B_:=[.int .i64 x.inst,.int .i64 x.cmd]
def Node.enc(x:Node):C_ B_:=[.int .i64 x.op,.int .i64 x.n]
def dH(n:Int):Prop := -9223372036854775808<=n/\n<=9223372036854775807
structure Node.ok(x:Node):Prop where
 op:dH x.op
 n:dH x.n
structure yN(w:World)(a:Addr)(x:Node):Prop where
 cells:e0 w a x.enc
 ok:x.ok
theorem yN.ext(w w':A_)(a:Addr)(x:Node)(he:Ext w w')(h:yN w a x):yN w' a x:=⟨h.cells.ext he,h.ok⟩
abbrev eV(w:A_)(v:B_)(l:C_ Node):Prop:=bh 2 yN w v l
theorem eV.ext{w w':A_}{v:B_}{l:C_ Node}(he:Ext w w')(h:eV w v l):eV w' v l:=bh.ext yN.ext he h
def Act.enc(x:Act)(bM b7:B_):C_ B_:=[.int .i64 x.kind,.int .i64 x.to,.int .i64 x.loc,bM,b7]
def yJ(w:A_)(a:Addr)(x:Act):Prop := ∃bM b7,e0 w a (x.enc bM b7)/\eV w bM x.index/\eV w b7 x.value
theorem yJ.ext(w w':A_)(a:Addr)(x:Act)(he:Ext w w')(h:yJ w a x):yJ w' a x:=let ⟨bM,b7,h1,I,ab⟩:=h; ⟨bM,b7,h1.ext he,I.ext he,ab.ext he⟩
abbrev mQ(w:A_)(v:B_)(l:C_ Act):Prop:=bh 5 yJ w v l
theorem mQ.ext{w w':A_}{v:B_}{l:C_ Act}(he:Ext w w')(h:mQ w v l):mQ w' v l:=bh.ext yJ.ext he h
def dI.enc(x:dI)(gu ea:B_):C_ B_:=[.string x.name,.int .i64 x.from_,.int .i64 x.to,gu,ea,.bool x.fair]
def yK(w:A_)(a:Addr)(x:dI):Prop:=jo x.name/\∃gu ea,e0 w a (x.enc gu ea)/\eV w gu x.guard/\mQ w ea x.bY
theorem yK.ext(w w':A_)(a:Addr)(x:dI)(he:Ext w w')(h:yK w a x):yK w' a x:=let ⟨af,bM,b7,h1,I,ab⟩:=h; ⟨af,bM,b7,h1.ext he,I.ext he,ab.ext he⟩
abbrev rk(w:A_)(v:B_)(l:C_ dI):Prop:=bh 6 yK w v l
theorem rk.ext{w w':A_}{v:B_}{l:C_ dI}(he:Ext w w')(h:rk w v l):rk w' v l:=bh.ext yK.ext he h
theorem h2.ext{w w':A_}{v:B_}{l:C_ Scalar}(he:Ext w w')(h:h2 w v l):h2 w' v l:=bh.ext jO.ext he h
theorem hP.ext{w w':A_}{v:B_}{l:C_ Var}(he:Ext w w')(h:hP w v l):hP w' v l:=bh.ext qs.ext he h
theorem mS.ext{w w':A_}{v:B_}{l:C_ dv}(he:Ext w w')(h:mS w v l):mS w' v l:=bh.ext qq.ext he h
def dz.enc(x:dz)(b7 ec:B_):C_ B_:=[.string x.name,.int .i64 x.over,.int .i64 x.b8,b7,ec]
def AH(w:A_)(a:Addr)(x:dz):Prop:=jo x.name/\∃b7 ec,e0 w a (x.enc b7 ec)/\hP w b7 x.vars/\rk w ec x.cL
theorem AH.ext(w w':A_)(a:Addr)(x:dz)(he:Ext w w')(h:AH w a x):AH w' a x:=let ⟨af,bM,b7,h1,I,ab⟩:=h; ⟨af,bM,b7,h1.ext he,I.ext he,ab.ext he⟩
abbrev qp(w:A_)(v:B_)(l:C_ dz):Prop:=bh 5 AH w v l
theorem qp.ext{w w':A_}{v:B_}{l:C_ dz}(he:Ext w w')(h:qp w v l):qp w' v l:=bh.ext AH.ext he h
def Au(w:A_)(cs:C_ B_)(c:dI):Prop:=jo c.name/\∃gu ea,cs=c.enc gu ea/\eV w gu c.guard/\mQ w ea c.bY
theorem Au.ext{w w':A_}{cs:C_ B_}{c:dI}(he:Ext w w')(h:Au w cs c):Au w' cs c:=let ⟨af,bM,b7,h1,I,ab⟩:=h; ⟨af,bM,b7,h1,I.ext he,ab.ext he⟩
def w6(w:A_)(cs:C_ B_)(p:dz):Prop:=jo p.name/\∃b7 ec,cs=p.enc b7 ec/\hP w b7 p.vars/\rk w ec p.cL
theorem w6.ext{w w':A_}{cs:C_ B_}{p:dz}(he:Ext w w')(h:w6 w cs p):w6 w' cs p:=let ⟨af,bM,b7,h1,I,ab⟩:=h; ⟨af,bM,b7,h1,I.ext he,ab.ext he⟩
def k0.enc(x:k0)(gI:B_):C_ B_:=[.string x.name,gI]
def AI(w:A_)(a:Addr)(x:k0):Prop:=jo x.name/\∃gI,e0 w a (x.enc gI)/\eV w gI x.expr
theorem AI.ext(w w':A_)(a:Addr)(x:k0)(he:Ext w w')(h:AI w a x):AI w' a x:=let ⟨af,bM,h1,I⟩:=h; ⟨af,bM,h1.ext he,I.ext he⟩
abbrev AF(w:A_)(v:B_)(l:C_ k0):Prop:=bh 2 AI w v l
theorem AF.ext{w w':A_}{v:B_}{l:C_ k0}(he:Ext w w')(h:AF w v l):AF w' v l:=bh.ext AI.ext he h
structure dV(w:World)(cs:List Value)(m:Model):Prop where
 ex:∃v0 v1 v2 v3 v4,cs=[v0,v1,v2,v3,v4]/\h2 w v0 m.scalars/\hP w v1 m.vars/\mS w v2 m.aw/\qp w v3 m.procs/\AF w v4 m.props
theorem dV.ext{w w':A_}{cs:C_ B_}{m:Model}(he:Ext w w')(h:dV w cs m):dV w' cs m :=
 let ⟨v0,v1,v2,v3,v4,e,af,h1,I,ab,aD⟩:=h.ex
 ⟨v0,v1,v2,v3,v4,e,af.ext he,h1.ext he,I.ext he,ab.ext he,aD.ext he⟩
instance atd:qj yN Node.enc:=⟨fun _ _ _ h=>h.cells⟩
instance ate:qj jO Scalar.enc:=⟨fun _ _ _ h=>h.cells⟩
instance atf:qj qs Var.enc:=⟨fun _ _ _ h=>h.cells⟩
instance as9:qj qq dv.enc:=⟨fun _ _ _ h=>h.cells⟩
end o
end
section
namespace bb
open Go Go.RowKit
section
variable{P:Program}{aC:Value->Prop}{w w0:World}
theorem _z{a:Addr}{cs:C_ B_}{j:Nat}{v:B_}{t}(h:e0 w0 a cs)(he:Ext w0 w)(aE:cs[j]? = some v)(hk:aC v):rm (.pointer (some (a.add j))) w aC t:=M_ (he.cell (h j v aE)) hk
theorem _0{a:Addr}{cs:C_ B_}{n:Nat}{t}(h:e0 w0 a cs)(he:Ext w0 w)(ay:cs.length=n)(hk:aC (.agg cs.toArray)):u2 n (.pointer (some a)) w aC t:=_B (h.ext he) ay hk
end
theorem J{A B:Prop}(k:B)(h:wX B->A:=by
 intro q
 (repeat' first
 | assumption
 | exact Ext.refl _
 | refine Ext.trans ?_ (by assumption)
 | simp -dsimp only[c0,cB,Nat.reduceAdd,Nat.reduceEqDiff,reduceIte,reduceCtorEq,dd,wF,wE,wc,wb,vB,vA,List.cons_append,List.nil_append]
 | refine Q_ (by omega) ?_
 | refine _K (by assumption) ?_ rfl ?_
 | refine _D (by assumption) ?_ rfl ?_
 | refine _T (by omega) ?_
 | refine _R (by first | assumption | omega) ?_
 | refine _S (by first | assumption | omega) ?_
 | refine _G (by assumption) ?_
 | refine _H (by assumption) ?_
 | refine _O (by assumption) ?_ (by omega) rfl ?_
 | refine _P (by assumption) ?_ (by omega) rfl ?_
 | refine _Q (by assumption) ?_ (by omega) rfl ?_
 | refine _z (by assumption) ?_ rfl ?_
 | refine _0 (by assumption) ?_ rfl ?_
 | refine R_ (by assumption) ?_ rfl ?_
 | refine _L (fun _=>by (simp -dsimp only[c0,Nat.reduceAdd,Nat.reduceEqDiff,reduceIte,reduceCtorEq,dd]);rfl) rfl rfl (by first | assumption | (simp[Value.oneCell',o.cZ.enc,o.Ref.enc,o.Node.enc,o.Scalar.enc,o.Var.enc,o.dv.enc,o.Act.enc,o.dI.enc,o.dz.enc,o.k0.enc];done)) ?_
 | refine O_ ?_
 | refine T_ (by assumption) rfl rfl (by first | assumption | (simp[Value.oneCell',o.cZ.enc,o.Ref.enc,o.Node.enc,o.Scalar.enc,o.Var.enc,o.dv.enc,o.Act.enc,o.dI.enc,o.dz.enc,o.k0.enc];done)) ?_
 | refine _F (by assumption) (Nat.le_of_ble_eq_true rfl) rfl ?_
 | refine _V (by assumption) (Nat.le_of_ble_eq_true rfl) rfl ?_
 | refine Y_ (by (simp only[eW,lay,nT,dp,bL,Value.cells,Nat.reduceAdd,Nat.reduceEqDiff,reduceIte,List.range,List.range.loop,List.map_cons,List.map_nil]);rfl) ?_
 | refine W_ (by (simp only[eW,lay,nT,dp,bL,Value.cells,Nat.reduceAdd,Nat.reduceEqDiff,reduceIte]);rfl) ?_)
 exact q.out):A:=h ⟨k⟩
theorem eh{A B:Prop}(k:B)(h:wX B->A:=by
 intro q
 (repeat' first
 | assumption
 | exact Ext.refl _
 | refine Ext.trans ?_ (by assumption)
 | simp -dsimp only[c0,Nat.reduceAdd,Nat.reduceEqDiff,reduceIte,reduceCtorEq,dd,wF,wE,wc,wb,vB,vA,List.cons_append,List.nil_append]
 | refine Q_ (by omega) ?_
 | refine _K (by assumption) ?_ rfl ?_
 | refine _D (by assumption) ?_ rfl ?_
 | refine _T (by omega) ?_
 | refine _R (by first | assumption | omega) ?_
 | refine _S (by first | assumption | omega) ?_
 | refine _G (by assumption) ?_
 | refine _H (by assumption) ?_
 | refine _O (by assumption) ?_ (by omega) rfl ?_
 | refine _P (by assumption) ?_ (by omega) rfl ?_
 | refine _Q (by assumption) ?_ (by omega) rfl ?_
 | refine _z (by assumption) ?_ rfl ?_
 | refine _0 (by assumption) ?_ rfl ?_
 | refine R_ (by assumption) ?_ rfl ?_
 | refine _L (fun _=>by (simp -dsimp only[c0,Nat.reduceAdd,Nat.reduceEqDiff,reduceIte,reduceCtorEq,dd]);rfl) rfl rfl (by first | assumption | (simp[Value.oneCell',o.cZ.enc,o.Ref.enc,o.Node.enc,o.Scalar.enc,o.Var.enc,o.dv.enc,o.Act.enc,o.dI.enc,o.dz.enc,o.k0.enc];done)) ?_
 | refine O_ ?_
 | refine T_ (by assumption) rfl rfl (by first | assumption | (simp[Value.oneCell',o.cZ.enc,o.Ref.enc,o.Node.enc,o.Scalar.enc,o.Var.enc,o.dv.enc,o.Act.enc,o.dI.enc,o.dz.enc,o.k0.enc];done)) ?_
 | refine _F (by assumption) (Nat.le_of_ble_eq_true rfl) rfl ?_
 | refine _V (by assumption) (Nat.le_of_ble_eq_true rfl) rfl ?_
 | refine Y_ (by (simp only[eW,lay,nT,dp,bL,Value.cells,Nat.reduceAdd,Nat.reduceEqDiff,reduceIte,List.range,List.range.loop,List.map_cons,List.map_nil]);rfl) ?_
 | refine W_ (by (simp only[eW,lay,nT,dp,bL,Value.cells,Nat.reduceAdd,Nat.reduceEqDiff,reduceIte]);rfl) ?_)
 exact q.out):A:=h ⟨k⟩
end bb
end
section
namespace bb
open Go Go.RowKit
def gT(A:Nat->Prop)(p:A_->Prop)(w:A_):Prop := ∀w',Mod A w w'->p w'
theorem gT.here{A:Nat->Prop}{p:A_->Prop}{w:A_}(h:gT A p w):p w:=h w (Mod.refl A w)
theorem Mod.comp{A A' B:Nat->Prop}{a b c:A_}(h:Mod A a b)(k:Mod A' b c)(h1:∀i,i<a.heap.size->A i->B i)(I:∀i,i<a.heap.size->A' i->B i):Mod B a c :=
 ⟨k.os.trans h.os,k.tape.trans h.tape,k.output.trans h.output,Nat.le_trans h.size k.size,fun i U ay=>(k.block i (Nat.lt_of_lt_of_le U h.size) fun e=>ay (I i U e)).trans (h.block i U fun e=>ay (h1 i U e))⟩
theorem gT.move{A A' B:Nat->Prop}{p:A_->Prop}{w w':A_}(h:gT B p w)(m:Mod A w w')(h1:∀i,i<w.heap.size->A i->B i)(I:∀i,i<w.heap.size->A' i->B i):gT A' p w' :=
 fun bK k=>h bK (m.comp k h1 I)
theorem gT.mono{A B:Nat->Prop}{p:A_->Prop}{w:A_}(h:gT B p w)(I:∀i,i<w.heap.size->A i->B i):gT A p w:=h.move (Mod.refl A w) I I
theorem gT.ext{B:Nat->Prop}{p:A_->Prop}{w w':A_}(h:gT B p w)(e:Ext w w')(km:∀i,w.heap.size<=i->¬B i):gT B p w' :=
 h.move (A:=fun _=>False) e.mod (fun _ _ h=>h.elim) (fun _ _ h=>h)
theorem gT.imp{A:Nat->Prop}{p q:A_->Prop}{w:A_}(h:gT A p w)(IY:∀w,p w->q w):gT A q w:=fun w' m=>IY w' (h w' m)
theorem gT.and{A:Nat->Prop}{p q:A_->Prop}{w:A_}(h:gT A p w)(k:gT A q w):gT A (fun w=>p w/\q w) w:=fun w' m=>⟨h w' m,k w' m⟩
theorem gT.of{A:Nat->Prop}{p:A_->Prop}{w:A_}(h:∀w',p w'):gT A p w:=fun w' _=>h w'
abbrev eD(w:A_)(p:A_->Prop)(w':A_):Prop:=gT (fun k=>k<w.heap.size) p w'
theorem eD.ext{w w1 aH:A_}{p:A_->Prop}(h:eD w p w1)(he:Ext w1 aH)(af:w.heap.size<=w1.heap.size):eD w p aH :=
 gT.ext h he fun i U hk=>by omega
theorem eD.low{w w0 w1:A_}{p:A_->Prop}(h:eD w p w1)(af:w0.heap.size<=w.heap.size):eD w0 p w1:=h.mono fun i _ U=>by omega
theorem eD.wr{w w1 aH:A_}{p:A_->Prop}{b:Nat}(h:eD w p w1)(hw:dn b w1 aH)(ak:b<w.heap.size):eD w p aH :=
 gT.move h (A:=fun k=>k=b) (hw.mod rfl) (fun i _ e=>by omega) (fun i _ e=>e)
theorem eD.and{w w1:A_}{p q:A_->Prop}(h:eD w p w1)(k:eD w q w1):eD w (fun w=>p w/\q w) w1:=gT.and h k
theorem eD.imp{w w1:A_}{p q:A_->Prop}(h:eD w p w1)(IY:∀w,p w->q w):eD w q w1:=gT.imp h IY
class Rel{α:Type}(R:World->Addr->α->Prop)(C:outParam (World->List Value->α->Prop))(sz:outParam Nat):Prop where
 out:∀{w a x},R w a x->∃cs,e0 w a cs/\C w cs x
 n1:∀{w a cs x},e0 w a cs->C w cs x->R w a x
 len:∀{w cs x},C w cs x->cs.length=sz
 one:∀{w cs x},C w cs x->∀u∈cs,u.oneCell'=true
 ext:∀{w w' cs x},Ext w w'->C w cs x->C w' cs x
abbrev e1(sz:Nat):={cs:C_ B_ // cs.length=sz/\∀u∈cs,u.oneCell'=true}
def jR{sz:Nat}(c:e1 sz):C_ B_:=c.1
theorem jS{sz:Nat}(c:e1 sz):(jR c).length=sz:=c.2.1
theorem sN{sz:Nat}(c:e1 sz):∀u∈jR c,u.oneCell'=true:=c.2.2
abbrev oV(e:F_)(sz base:Nat)(w:A_)(v:B_)(cm:C_ (e1 sz)):Prop:=aW jR e sz base w v cm
theorem bh.cells{α:Type}{R:A_->Addr->α->Prop}{C:A_->C_ B_->α->Prop}{sz:Nat}[Rel R C sz]{w:A_}{v:B_}{xs:C_ α}(h:bh sz R w v xs) :
  ∃cm:C_ (e1 sz),cm.length=xs.length/\bh sz (Flat jR) w v cm/\∀i (h1:i<cm.length) (I:i<xs.length),C w cm[i].1 xs[i]:=by
 obtain⟨aQ,cap,rfl,h1,I,ab,aD⟩:=h.ex;obtain⟨cm,aF,ah⟩:=PF xs.length (fun i (c:e1 sz)=>(∀a,aQ=some a->e0 w (a.add (i*sz)) c.1)/\∀(h:i<xs.length),C w c.1 xs[i]) fun i U=>by
  obtain⟨a,rfl⟩:=Option.isSome_iff_exists.1 (ab (by intro e;subst e;simp at U));obtain⟨cs,c1,c2⟩:=Rel.out (aD a rfl i U);exact⟨⟨cs,Rel.len (R:=R) c2,Rel.one (R:=R) c2⟩,fun cD e=>by injection e with e;subst e;exact c1,fun _=>c2⟩
 refine⟨cm,aF,⟨aQ,cap,by rw[aF],by omega,I,fun ay=>ab (by intro e;subst e;simp at aF;exact ay aF),fun a aV i U=>(ah i U).1 a aV⟩,fun i h1 I=>(ah i h1).2 I⟩
theorem bh.Fj{α:Type}{R:A_->Addr->α->Prop}{C:A_->C_ B_->α->Prop}{sz:Nat}[Rel R C sz]{w:A_}{v:B_}{xs:C_ α}{cm:C_ (e1 sz)}(aF:cm.length=xs.length)(h:bh sz (Flat jR) w v cm)
  (ah:∀i (h1:i<cm.length) (I:i<xs.length),C w cm[i].1 xs[i]):bh sz R w v xs:=by
 obtain⟨aQ,cap,rfl,h1,I,ab,aD⟩:=h.ex;refine⟨aQ,cap,by rw[aF],by omega,I,fun ay=>ab (by intro e;subst e;simp at aF;exact ay (List.eq_nil_of_length_eq_zero aF.symm)),fun a aV i U=>Rel.n1 (aD a aV i (by omega)) (ah i (by omega) U)⟩
theorem _X{P:D_}{cW:B_->A_->Prop}{α:Type}{enc:α->C_ B_}{e:F_}{sz base:Nat}{w:A_}{xs:C_ α}{ty:F_}{b:Nat}{s:B_}{a:Addr}{m c:Nat}{ys:C_ α}{t}(an:aW enc e sz base w s xs)(dy:∀x,(enc x).length=sz)(ah:e0 w a (ys.flatMap enc))(hm:m=ys.length)
  (h1:∀y,∀u∈enc y,u.oneCell'=true)(ak:(xs.length+ys.length)*b<=140737488355328)(my:xs.length+ys.length<=maxLen)(lG:base<=w.heap.size)
  (hk:∀b9 w',aW enc e sz base w' b9 (xs++ys)->w.grownBy w' s.ownBlock->(b9.ownBlock=s.ownBlock\/b9.ownBlock=some w.heap.size)->cW b9 w'):mR P ty e sz b s (.slice (some a) m c) w cW t:=by
 subst hm;refine _q fun⟨aB,i,z,U,bA,EH,D6,BW,OR⟩=>?_;obtain⟨b9,w',aL,I,ab,_,aY⟩:=run_append_own_at (P:=P) w base ty ty e i z sz b aB U bA EH D6 BW OR s _ _ an a _ c _ (xy dy ys) ah (fun u hu=>by obtain⟨y,_,bS⟩:=List.mem_flatMap.1 hu;exact h1 y u bS) my ak lG;refine⟨ty,b9,w',aL,hk b9 w' ?_ ab aY⟩;unfold aW;rw[List.length_append,List.flatMap_append];exact I
def yI(v:B_)(base k:Nat):Prop:=v.ownBlock=some k\/k<base
structure eO{α:Type}(C:World->List Value->α->Prop)(e:TypeId)(sz base:Nat)(w:World)(v:Value)(xs:List α):Prop where
 ex:∃cm:List (e1 sz),cm.length=xs.length/\oV e sz base w v cm/\∀i (h1:i<cm.length) (I:i<xs.length),gT (yI v base) (fun w=>C w cm[i].1 xs[i]) w
section
variable{α:Type}{C:World->List Value->α->Prop}{e:TypeId}{sz base:Nat}{w w':World}{v:Value}{xs:List α}
theorem eO.nil(C:A_->C_ B_->α->Prop)(e:F_)(sz base:Nat)(w:A_):eO C e sz base w (.slice none 0 0) []:=⟨[],rfl,aW.nil _ _ _ _ _,fun i h=>by cases h⟩
theorem eO.form(h:eO C e sz base w v xs):∃aQ cap,v = .slice aQ xs.length cap/\xs.length<=cap/\cap<=maxLen:=by
 obtain⟨cm,aF,aM,_⟩:=h.ex;obtain⟨aQ,cap,h1,I,ab⟩:=aM.form;exact⟨aQ,cap,by rw[h1,aF],by omega,ab⟩
theorem eO.lt(h:eO C e sz base w v xs):∀k,v.ownBlock=some k->base<=k/\k<w.heap.size:=by
 obtain⟨cm,aF,aM,_⟩:=h.ex;exact aM.lt
theorem aW.mod{enc:α->C_ B_}{A:Nat->Prop}(h:aW enc e sz base w v xs)(m:Mod A w w')(dh:∀k,v.ownBlock=some k->¬A k):aW enc e sz base w' v xs:=by
 refine⟨h.1,?_⟩;rcases h.2 with ay | ⟨g,cap,cur,rfl,ak,aK,rest⟩
 .exact .inl ay
 .exact .inr ⟨g,cap,cur,rfl,ak,m.obj (dh g rfl) aK,rest⟩
theorem aW.cu{enc:α->C_ B_}(h:aW enc e sz base w v xs):∀k,v.ownBlock=some k->∃cur,w.heap[k]? = some (.cells cur e):=fun k hk=>by
 rcases h.2 with ⟨rfl,_⟩ | ⟨g,cap,cur,rfl,ak,aK,rest⟩
 .cases hk
 .simp only[Value.ownBlock,Option.some.injEq] at hk;subst hk;exact⟨cur,aK⟩
theorem eO.mod{A:Nat->Prop}(h:eO C e sz base w v xs)(m:Mod A w w')(dh:∀k,k<w.heap.size->A k->k<base):eO C e sz base w' v xs:=by
 obtain⟨cm,aF,aM,ah⟩:=h.ex;refine⟨cm,aF,aM.mod m fun k hk a=>?_,fun i h1 I=>(ah i h1 I).move m (fun i U a=>.inr (dh i U a)) fun _ _ a=>a⟩
 have:=aM.lt k hk
 have:=dh k this.2 a
 omega
theorem eO.ext(h:eO C e sz base w v xs)(m:Ext w w'):eO C e sz base w' v xs:=h.mod (A:=fun _=>False) m.mod fun _ _ h=>h.elim
theorem eO.wr{b:Nat}(h:eO C e sz base w v xs)(m:dn b w w')(ak:b<base):eO C e sz base w' v xs:=h.mod (A:=fun k=>k=b) (m.mod rfl) fun k _ e=>by omega
theorem eO.new{R:A_->Addr->α->Prop}[Rel R C sz](h:eO C e sz base w v xs):gT (fun k=>k<base) (fun w=>bh sz R w v xs) w:=fun w' m=>by
 have bd:=h.mod m fun k _ a=>a;obtain⟨cm,aF,aM,ah⟩:=bd.ex;exact bh.Fj aF (aM.jH jS) fun i h1 I=>(ah i h1 I).here
theorem eO.jH{R:A_->Addr->α->Prop}[Rel R C sz](h:eO C e sz base w v xs):bh sz R w v xs:=(h.new (R:=R)).here
theorem eO.under(h:eO C e sz base w v xs)(ak:base<=w.heap.size):∀k,yI v base k->k<w.heap.size:=fun k hk=>by
 rcases hk with hk | hk
 .exact(h.lt k hk).2
 .omega
theorem eD.own{p:A_->Prop}{w1:A_}(ay:eD w p w1)(h:eO C e sz base w v xs)(ak:base<=w.heap.size):gT (yI v base) p w1:=ay.mono fun i _ U=>h.under ak i U
theorem eO.box{t:F_}{k:Nat}{c:Array B_}(aM:eO C e sz base w v xs)(aK:w.grownBy w' v.ownBlock)(hk:w.heap[k]? = some (.cells c t))(aB:t≠e):w'.heap[k]? = some (.cells c t):=by
 obtain⟨cm,_,aM,_⟩:=aM.ex;rw[aK.block k (cy hk) fun e'=>?_]
 .exact hk
 rcases aM.2 with ⟨rfl,_⟩ | ⟨g,cap,c2,rfl,_,BG,_⟩
 .cases e'
 .simp only[Value.ownBlock,Option.some.injEq] at e';subst e';rw[BG] at hk;injection hk with hk
  injection hk with _ hk
  exact aB hk.symm
theorem eO.mw{w0:A_}(aM:eO C e sz base w v xs)(he:Ext w0 w)(aK:w.grownBy w' v.ownBlock)(ak:w0.heap.size<=base):Ext w0 w':=he.grown aK fun k hk=>Nat.le_trans ak (aM.lt k hk).1
theorem _Y{P:D_}{cW:B_->A_->Prop}{ty:F_}{b:Nat}{a:Addr}{c:Nat}{cs:C_ B_}{x:α}{t}(an:eO C e sz base w v xs)(ah:e0 w a cs)(bC:gT (yI v base) (fun w=>C w cs x) w)
  (dy:cs.length=sz)(h1:∀u∈cs,u.oneCell'=true)(ak:(xs.length+1)*b<=140737488355328)(my:xs.length+1<=maxLen)(lG:base<=w.heap.size)
  (hk:∀b9 w',eO C e sz base w' b9 (xs++[x])->w.grownBy w' v.ownBlock->cW b9 w'):mR P ty e sz b v (.slice (some a) 1 c) w cW t:=by
 obtain⟨cm,aF,aM,h9⟩:=an.ex;refine _X (enc:=jR) (ys:=[(⟨cs,dy,h1⟩:e1 sz)]) aM jS (by simpa[jR] using ah) rfl sN (by rw[aF];exact ak) (by rw[aF];exact my) lG fun b9 w' mC aK kJ=>hk b9 w' ⟨cm++[⟨cs,dy,h1⟩],by simp[aF],mC,fun i h1 I=>?_⟩ aK;have hm:Mod (fun k=>v.ownBlock=some k) w w':=Mod.grown aK fun k hk=>hk;have fB:∀k,k<w.heap.size->b9.ownBlock=some k->yI v base k:=fun k hk he=>by
  rcases kJ with e | e
  .exact .inl (e ▸ he)
  .rw[e] at he;injection he with he;omega
 have key:∀{p:A_->Prop},gT (yI v base) p w->gT (yI b9 base) p w':=fun {p} h=>h.move hm (fun i _ a=>.inl a) fun i U a=>by
  rcases a with a | a
  .exact fB i U a
  .exact .inr a
 rw[List.length_append] at h1 I;by_cases U:i<cm.length
 .have p0:i<xs.length:=by omega
  have:=key (h9 i U p0)
  simpa[List.getElem_append,U,p0] using this
 .have bt:i=cm.length:=by simp at h1;omega
  subst bt;have aI:¬cm.length<xs.length:=by omega
  have:=key bC
  simpa[List.getElem_append,aI] using this
end
section
variable{α:Type}{enc:α->List Value}{e:TypeId}{sz base:Nat}{w w':World}{v:Value}{xs:List α}
theorem aW.box{t:F_}{k:Nat}{c:Array B_}(aM:aW enc e sz base w v xs)(aK:w.grownBy w' v.ownBlock)(hk:w.heap[k]? = some (.cells c t))(aB:t≠e):w'.heap[k]? = some (.cells c t):=by
 rw[aK.block k (cy hk) fun e'=>?_]
 .exact hk
 .obtain⟨cur,h⟩:=aM.cu k e'.symm;rw[hk] at h;injection h with h;injection h with _ h;exact aB h
theorem aW.mw{w0:A_}(aM:aW enc e sz base w v xs)(he:Ext w0 w)(aK:w.grownBy w' v.ownBlock)(ak:w0.heap.size<=base):Ext w0 w':=he.grown aK fun k hk=>Nat.le_trans ak (aM.lt k hk).1
theorem V_{P:D_}{cW:B_->A_->Prop}{ty:F_}{gM b:Nat}{y:α}{cs:C_ B_}{t}(an:aW enc e sz base w v xs)(ah:w.heap[b]? = some (.cells cs.toArray e))(gx:cs=enc y)(dy:∀x,(enc x).length=sz)(h1:∀y,∀u∈enc y,u.oneCell'=true)
  (ak:(xs.length+1)*gM<=140737488355328)(my:xs.length+1<=maxLen)(lG:base<=w.heap.size)
  (hk:∀aQ n c w',aW enc e sz base w' (.slice aQ n c) (xs++[y])->w.grownBy w' v.ownBlock->cW (.slice aQ n c) w'):mR P ty e sz gM v (.slice (some ⟨b,0,none⟩) 1 1) w cW t:=by
 refine _X (ys:=[y]) an dy (by subst gx;simpa using hA ah) rfl h1 ak my lG fun b9 w' aM aK _=>?_;obtain⟨aQ,cap,rfl,_⟩:=aM.form;exact hk _ _ _ _ aM aK
end
theorem QA{α:Type}{l:C_ α}{k b:Nat}(hk:k<l.length)(ak:l.length*b<=140737488351232)(hm:l.length<=9223372036854775807):((l.take k).length+1)*b<=140737488355328/\(l.take k).length+1<=maxLen:=by
 have e:(l.take k).length=k:=by rw[List.length_take];omega
 rw[e]
 have:=Nat.mul_le_mul_right b (show k+1<=l.length from hk)
 exact⟨by omega,by unfold maxLen;omega⟩
theorem eO.snoc{α:Type}{C:A_->C_ B_->α->Prop}{e:F_}{sz base:Nat}{w:A_}{v:B_}{l:C_ α}{k:Nat}(hk:k<l.length)(h:eO C e sz base w v (l.take k++[l[k]])):eO C e sz base w v (l.take (k+1)):=by
 rw[List.take_succ_eq_append_getElem hk];exact h
theorem eO.done{α:Type}{C:A_->C_ B_->α->Prop}{e:F_}{sz base:Nat}{w:A_}{v:B_}{l:C_ α}{k:Nat}(hk:l.length<=k)(h:eO C e sz base w v (l.take k)):eO C e sz base w v l:=by
 rwa[List.take_of_length_le hk] at h
end bb
end
section
namespace bb
open Go Go.RowKit
inductive jv where
 | i
 | b
 | s
deriving DecidableEq
def jv.of:TypeDesc->H_ jv
 | .int .i64=>some .i
 | .bool=>some .b
 | .string=>some .s
 | _=>none
theorem jv.amM{sa:TypeDesc}(h:jv.of sa=some .i):sa = .int .i64:=by unfold jv.of at h;split at h<;>simp_all
theorem jv.amL{sa:TypeDesc}(h:jv.of sa=some .b):sa = .bool:=by unfold jv.of at h;split at h<;>simp_all
theorem jv.amN{sa:TypeDesc}(h:jv.of sa=some .s):sa = .string:=by unfold jv.of at h;split at h<;>simp_all
def jv.ok:jv->B_->Prop
 | .i,v => ∃n,v = .int .i64 n
 | .b,v => ∃n,v = .bool n
 | .s,v => ∃n,v = .string n
def ry:C_ jv->C_ B_->Prop
 | [],[]=>True
 | k :: rX,v :: vs=>k.ok v/\ry rX vs
 | _,_=>False
theorem Ms:∀{rX:C_ jv} {vs:C_ B_},ry rX vs->vs.length=rX.length
 | [],[],_=>rfl
 | _ :: _,_ :: _,h=>by simp[Ms h.2]
 | [],_ :: _,h=>h.elim
 | _ :: _,[],h=>h.elim
def Bl(P:D_):C_ Field->C_ jv->Nat->Bool
 | [],[],_=>true
 | f :: fM,k :: rX,n=>f.name != "_" && f.offset == n&&((P.underlying f.type).bind jv.of == some k)&&Bl P fM rX (n+1)
 | _,_,_=>false
def HD(P:D_)(t:F_)(sig:C_ jv):Bool :=
 match P.underlying t with
 | some (.struct fM) => !P.stoodInHeld t && !P.eqGuardType P.depth t&&Bl P fM.toList sig 0
 | _=>false
theorem drop_cons{α:Type}{l:C_ α}{n:Nat}{x:α}{r:C_ α}(h:l.drop n=x :: r):l[n]? = some x/\l.drop (n+1)=r:=by
 have h1:l[n]? = some x:=by
  have:=congrArg (·[0]?) h
  simpa using this
 refine⟨h1,?_⟩
 have:=congrArg (List.drop 1) h
 simpa[List.drop_drop] using this
theorem VV{P:D_}(w:A_)(d:Nat)(xs ys:Array B_):∀(fM:C_ Field) (rX:C_ jv) (n:Nat),Bl P fM rX n=true->ry rX (xs.toList.drop n)->ry rX (ys.toList.drop n) ->
  ∃r:Bool,(Op.eqFields (d+1) xs ys fM).run P w = .ok r w/\(r=true↔xs.toList.drop n=ys.toList.drop n)
 | [],[],n,_,ag,bS=>by
  refine⟨true,by simp[Op.eqFields],?_⟩;have h1:=Ms ag;have I:=Ms bS;rw[List.eq_nil_of_length_eq_zero h1,List.eq_nil_of_length_eq_zero I];simp
 | [],_ :: _,_,h,_,_=>by simp[Bl] at h
 | _ :: _,[],_,h,_,_=>by simp[Bl] at h
 | f :: fM,k :: rX,n,h,ag,bS=>by
  simp only[Bl,Bool.and_eq_true,bne_iff_ne,ne_eq,beq_iff_eq] at h;obtain⟨⟨⟨h1,I⟩,ab⟩,aD⟩:=h;obtain⟨sa,hu,hk⟩:=Option.bind_eq_some_iff.1 ab;cases NQ:xs.toList.drop n with
  | nil=>rw[NQ] at ag;exact ag.elim
  | cons x rx =>
   cases NR:ys.toList.drop n with
   | nil=>rw[NR] at bS;exact bS.elim
   | cons y abh =>
    rw[NQ] at ag;rw[NR] at bS;obtain⟨ex,V5⟩:=drop_cons NQ;obtain⟨agf,V6⟩:=drop_cons NR;obtain⟨r,aL,XQ⟩:=VV w d xs ys fM rX (n+1) aD (by rw[V5];exact ag.2) (by rw[V6];exact bS.2);have aV:sy P f.type=some false:=by
     unfold sy;rw[hu];cases sa<;>simp[jv.of] at hk<;>rfl
    have afS:xs[n]? = some x:=by rw[<-Array.getElem?_toList];exact ex
    have agh:ys[n]? = some y:=by rw[<-Array.getElem?_toList];exact agf
    have anW:(part f.type xs f.offset).run P w = .ok x w:=by simp[part,yl aV,I,afS]
    have anZ:(part f.type ys f.offset).run P w = .ok y w:=by simp[part,yl aV,I,agh]
    have P4:∃q:Bool,(Op.equalIn (d+1) f.type x y).run P w = .ok q w/\(q=true↔x=y):=by
     cases k with
     | i =>
      obtain⟨a,rfl⟩:=ag.1;obtain⟨b,rfl⟩:=bS.1;have aB:=jv.amM hk;subst aB;exact⟨_,run_equalIn_int w d f.type .i64 .i64 a b hu,by simp⟩
     | b =>
      obtain⟨a,rfl⟩:=ag.1;obtain⟨b,rfl⟩:=bS.1;have aB:=jv.amL hk;subst aB;exact⟨_,run_equalIn_bool' w d f.type a b hu,by simp⟩
     | s =>
      obtain⟨a,rfl⟩:=ag.1;obtain⟨b,rfl⟩:=bS.1;have aB:=jv.amN hk;subst aB;exact⟨_,run_equalIn_string w d f.type a b hu,by rw[<-beq_toListBytes];simp⟩
    obtain⟨q,au,OB⟩:=P4;refine⟨q&&r,?_,?_⟩
    .simp only[Op.eqFields,h1,ne_eq,not_false_eq_true,if_true,Sem.run_bind,anW,anZ,au,Result.andThen_ok];cases q
     .simp
     .simpa using aL
    .rw[V5,V6] at XQ;simp only[Bool.and_eq_true,OB,XQ,List.cons.injEq]
theorem aa9{P:D_}{t:F_}{sig:C_ jv}(h:HD P t sig=true)(w:A_){xs ys:C_ B_}(ag:ry sig xs)(bS:ry sig ys)(x y:G_) :
  ∃r:Bool,(r=true↔xs=ys)/\∀w,(do eqGuard .eql t x y (.agg xs.toArray) (.agg ys.toArray);binOp .eql t (.agg xs.toArray) (.agg ys.toArray):Sem B_).run P w = .ok (.bool r) w /\
   (do eqGuard .neq t x y (.agg xs.toArray) (.agg ys.toArray);binOp .neq t (.agg xs.toArray) (.agg ys.toArray):Sem B_).run P w = .ok (.bool (!r)) w:=by
 unfold HD at h;cases hu:P.underlying t with
 | none=>rw[hu] at h;cases h
 | some sa =>
  cases sa<;>simp[hu] at h;rename_i fM;obtain⟨⟨h1,I⟩,ab⟩:=h;have XK:P.fieldsOf t=fM:=by simp[Program.fieldsOf,hu]
  have key:∀w,∃r:Bool,(Op.equalIn 10000 t (.agg xs.toArray) (.agg ys.toArray)).run P w = .ok r w/\(r=true↔xs=ys):=fun w=>by
   obtain⟨r,aL,U⟩:=VV (P:=P) w 9998 xs.toArray ys.toArray fM.toList sig 0 ab (by simpa using ag) (by simpa using bS);refine⟨r,?_,by simpa using U⟩;rw[run_equalIn_struct w 9999 t _ _ (by rw[XK];exact hu) h1,XK];exact aL
  obtain⟨r,_,U⟩:=key w;refine⟨r,U,fun w'=>?_⟩;obtain⟨hj,qT,cE⟩:=key w'
  have:hj=r:=by
   rcases Bool.eq_false_or_eq_true r with e | e
   .rw[e];exact cE.2 (U.1 e)
   .rw[e];exact Bool.eq_false_iff.2 fun h=>by rw[U.2 (cE.1 h)] at e;cases e
  subst this;refine⟨?_,?_⟩
  .simp only[Sem.run_bind,run_eqGuard_agg w' .eql t x y _ _ I,Result.andThen_ok,run_eql_struct,qT]
  .simp only[Sem.run_bind,run_eqGuard_agg w' .neq t x y _ _ I,Result.andThen_ok,run_neq_struct,qT]
section
variable{P:Program}{aC:Value->Prop}{cX c6:Operand}
theorem AB0{t:F_}{sig:C_ jv}{xs ys:C_ B_}{mi}(h:HD P t sig=true)(ag:ry sig xs)(bS:ry sig ys)(hk:∀r:Bool,(r=true↔xs=ys)->aC (.bool r)):gA P .eql t cX c6 (.agg xs.toArray) (.agg ys.toArray) aC mi:=by
 obtain⟨r,h1,I⟩:=aa9 h default ag bS cX c6;exact _N (fun w=>(I w).1) (hk r h1)
theorem _7{t:F_}{sig:C_ jv}{xs ys:C_ B_}{mi}(h:HD P t sig=true)(ag:ry sig xs)(bS:ry sig ys)(hk:∀r:Bool,(r=true↔xs≠ys)->aC (.bool r)):gA P .neq t cX c6 (.agg xs.toArray) (.agg ys.toArray) aC mi:=by
 obtain⟨r,h1,I⟩:=aa9 h default ag bS cX c6;exact _N (fun w=>(I w).2) (hk (!r) (by rw[ne_eq,<-h1];cases r<;>simp))
theorem AB1{t e:F_}{a:H_ Addr}{l c:Nat}{mi}(h:P.underlying t=some (.slice e))(hk:aC (.bool a.isNone)):gA P .eql t cX c6 (.slice a l c) (.slice none 0 0) aC mi :=
 _N (v:=.bool a.isNone) (fun w=>by simp[eqGuard_at_slice,binOp,run_equal_slice_nil w t e a l c h]) hk
end
end bb
end
section
namespace bb
open Go Go.RowKit
section
variable{P:Program}{w0 w:World}{S:Fr}{K:Fr->World->Prop}
def strip:eJ->C_ Step×eJ
 | .take s r=>(s :: (strip r).1,(strip r).2)
 | t=>([],t)
theorem Ct:∀(t:eJ) (S:Fr),tq P (strip t).1 S w0 (fun aX=>mP P w0 (strip t).2 aX w K)->mP P w0 t S w K
 | .take ⟨d,none,i⟩ r,S,h=>by
  show lX P i S w0 fun v=>mP P w0 r (put S d v) w K;have bd:lX P i S w0 fun v=>tq P (strip r).1 (put S d v) w0 (fun aX=>mP P w0 (strip r).2 aX w K):=h;exact lX.mono (fun v aG=>Ct r _ aG) bd
 | .take ⟨d,some (j,b),i⟩ r,S,h=>by
  rcases h with ⟨t,aB,h1,I⟩ | ⟨hu,ab⟩
  .exact .inl ⟨t,aB,fun e=>lX.mono (fun v aG=>Ct r _ aG) (h1 e),fun e=>Ct r _ (I e)⟩
  .exact .inr ⟨hu,Ct r _ ab⟩
 | .done,S,h=>h
 | .nil,S,h=>h
 | .alt _ _ _,S,h=>h
 | .bk _ _ _,S,h=>h
 | .wide _,S,h=>h
theorem abE{b n:Nat}{c cs:Array B_}{e:F_}{KW:A_->Prop}(ak:w.heap[b]? = some (.cells c e))(ah:c.size=n)(ay:cs.size=n)(h1:∀x∈cs.toList,x.oneCell'=true)
  (hk:∀w1,dn b w w1->w1.heap[b]? = some (.cells cs e)->KW w1):AK n (.pointer (some ⟨b,0,none⟩)) (.agg cs) w KW :=
 QU ay (fun j aE=>⟨⟨_,fQ ak (Array.getElem?_eq_getElem (by omega))⟩,by rw[add_eq];simp[World.frozen?,ak]⟩) h1 (hk _ (dn.ic cs.toList w ⟨b,0,none⟩ 0) (abn ak (by omega)))
structure tG where
 d:Nat
 ty:TypeId
 z:Array Value
 n:Nat
 x:Nat
def tG.new(v:tG):Step:=⟨some v.d,none,.e (.new v.ty (.agg v.z))⟩
def tG.st(v:tG):Step:=⟨none,none,.e (.hz v.n (.tmp v.d) (.tmp v.x))⟩
theorem adk(v:tG)(k:Fr->A_->Prop):C7 P w0 v.st S w k=AK v.n (S v.d) (S v.x) w (fun w'=>Ext w0 w'/\k S w'):=rfl
theorem agN(v:tG)(k:Fr->A_->Prop):pb P v.st S w k=AK v.n (S v.d) (S v.x) w (fun w'=>k S w'):=rfl
def abZ(a b:tG):eJ :=
 .alt a.new (.alt b.new (.alt a.st (.bk b.st .done .nil) .nil) .nil) (.alt b.new (.alt a.new (.alt a.st (.bk b.st .done .nil) .nil) .nil) .nil)
theorem aqA(S:Fr){a b:Nat}(h:a≠b)(x y:B_):bW (bW S a x) b y=bW (bW S b y) a x:=by
 funext t;unfold bW;split<;>split<;>simp_all
theorem aqu(a b:tG){oi oQ:C_ B_}(a6:(a.d != b.d&&a.x != a.d&&a.x != b.d&&b.x != a.d&&b.x != b.d)=true)(Pd:a.z.size=a.n)(Pe:b.z.size=b.n)(aV:S a.x = .agg oi.toArray)(ak:S b.x = .agg oQ.toArray)(ajg:oi.length=a.n)(X2:oQ.length=b.n)
  (ahi:∀u∈oi,u.oneCell'=true)(ahj:∀u∈oQ,u.oneCell'=true)
  (hk:∀w' gl gM,Ext w0 w'->w0.heap.size<=gl->w0.heap.size<=gM->gl≠gM->w'.heap[gl]? = some (.cells oi.toArray a.ty)->w'.heap[gM]? = some (.cells oQ.toArray b.ty) ->
   K (bW (bW S a.d (.pointer (some ⟨gl,0,none⟩))) b.d (.pointer (some ⟨gM,0,none⟩))) w'):mP P w0 (abZ a b) S w0 K:=by
 simp only[Bool.and_eq_true,bne_iff_ne,ne_eq] at a6;obtain⟨⟨⟨⟨d1,d2⟩,d3⟩,d4⟩,d5⟩:=a6;have fin:∀(aX:Fr) (aH:A_) (gl gM:Nat),aX=bW (bW S a.d (.pointer (some ⟨gl,0,none⟩))) b.d (.pointer (some ⟨gM,0,none⟩))->Ext w0 aH->w0.heap.size<=gl->w0.heap.size<=gM->gl≠gM ->
   aH.heap[gl]? = some (.cells a.z a.ty)->aH.heap[gM]? = some (.cells b.z b.ty)->mP P w0 (.alt a.st (.bk b.st .done .nil) .nil) aX aH K:=by
  rintro aX aH gl gM rfl he h1 I cw Ec oE;refine⟨?_,trivial⟩;have bt:bW (bW S a.d (.pointer (some ⟨gl,0,none⟩))) b.d (.pointer (some ⟨gM,0,none⟩)) a.d = .pointer (some ⟨gl,0,none⟩):=by simp[bW,d1]
  have aI:bW (bW S a.d (.pointer (some ⟨gl,0,none⟩))) b.d (.pointer (some ⟨gM,0,none⟩)) a.x = .agg oi.toArray:=by simp[bW,d2,d3,aV]
  have ba:bW (bW S a.d (.pointer (some ⟨gl,0,none⟩))) b.d (.pointer (some ⟨gM,0,none⟩)) b.d = .pointer (some ⟨gM,0,none⟩):=by simp[bW]
  have bG:bW (bW S a.d (.pointer (some ⟨gl,0,none⟩))) b.d (.pointer (some ⟨gM,0,none⟩)) b.x = .agg oQ.toArray:=by simp[bW,d4,d5,ak]
  rw[adk,bt,aI];refine abE Ec Pd (by simpa using ajg) (by simpa using ahi) fun aP gd bu=>⟨gd.ext he h1,?_⟩;refine⟨?_,trivial⟩;rw[agN,ba,bG];refine abE (gd.obj oE (Ne.symm cw)) Pe (by simpa using X2) (by simpa using ahj) fun aR du bH=>?_;exact hk aR gl gM (du.ext (gd.ext he h1) I) h1 I cw (du.obj bu cw) bH
 have m1:∀(ad o':Obj),((w0.alloc ad).alloc o').heap[w0.heap.size]? = some ad:=fun ad o'=>((Ext.refl (w0.alloc ad)).alloc o').obj (heap_alloc_new w0 ad);have m2:∀(ad o':Obj),((w0.alloc ad).alloc o').heap[w0.heap.size+1]? = some o':=fun ad o'=>by
  have:=heap_alloc_new (w0.alloc ad) o'
  rwa[World.size_alloc] at this
 refine⟨⟨(Ext.refl _).alloc _,⟨((Ext.refl _).alloc _).alloc _,?_⟩,trivial⟩,⟨(Ext.refl _).alloc _,⟨((Ext.refl _).alloc _).alloc _,?_⟩,trivial⟩,trivial⟩
 .refine fin _ _ w0.heap.size (w0.heap.size+1) ?_ (((Ext.refl _).alloc _).alloc _) (Nat.le_refl _) (by omega) (by omega) (m1 _ _) (m2 _ _);show bW (bW S a.d _) b.d (.pointer (some ⟨(w0.alloc _).heap.size,0,none⟩))=_;rw[World.size_alloc]
 .refine fin _ _ (w0.heap.size+1) w0.heap.size ?_ (((Ext.refl _).alloc _).alloc _) (by omega) (Nat.le_refl _) (by omega) (m2 _ _) (m1 _ _);show bW (bW S b.d _) a.d (.pointer (some ⟨(w0.alloc _).heap.size,0,none⟩))=_;rw[World.size_alloc,aqA S (Ne.symm d1)]
theorem AE4{Q:ed->Fr->A_->Prop}{t:eJ}{gL:eC}{mi}(l:C_ Step)(Bb:Nat)(QY:F_)(FZ:Array B_)(nx tm Bc:Nat)(tb:F_)(F0:Array B_)(lO r3:Nat)(aB:strip t=(l,abZ ⟨Bb,QY,FZ,nx,tm⟩ ⟨Bc,tb,F0,lO,r3⟩))(a6:(Bb != Bc&&tm != Bb&&tm != Bc&&r3 != Bb&&r3 != Bc)=true)(Pd:FZ.size=nx)(Pe:F0.size=lO)
  (hk:∀w1,Ext w w1->lP P l S w1 (fun aX => ∃oi oQ:C_ B_,aX tm = .agg oi.toArray/\aX r3 = .agg oQ.toArray/\oi.length=nx/\oQ.length=lO/\(∀u∈oi,u.oneCell'=true)/\(∀u∈oQ,u.oneCell'=true) /\
   ∀w' gl gM,Ext w1 w'->w1.heap.size<=gl->w1.heap.size<=gM->gl≠gM->w'.heap[gl]? = some (.cells oi.toArray QY)->w'.heap[gM]? = some (.cells oQ.toArray tb) ->
    dO P gL Q (bW (bW aX Bb (.pointer (some ⟨gl,0,none⟩))) Bc (.pointer (some ⟨gM,0,none⟩))) w' ⟨⟩) ⟨⟩):dO P (.seq (.dM t) gL) Q S w mi:=by
 unfold dO lP at *;show ec P (.dM t) _ S w;intro w1 he;refine Ct t S ?_;have h:=hk w1 he;rw[aB];refine zZ l S w1 _ _ (fun aX _ bd=>?_) h;obtain⟨oi,oQ,h1,I,ab,aD,aY,bx,b1⟩:=bd;exact aqu ⟨Bb,QY,FZ,nx,tm⟩ ⟨Bc,tb,F0,lO,r3⟩ a6 Pd Pe h1 I ab aD aY bx fun w' gl gM bt aI ba bG bU c8=>b1 w' gl gM bt aI ba bG bU c8
def ij(w0 w w':A_)(p:A_->Prop):Prop := ∀bK,Ext w0 bK->w'.heap.size<=bK.heap.size->(∀k,w.heap.size<=k->k<w'.heap.size->bK.heap[k]? = w'.heap[k]?)->p bK
structure arx(w0:World)(a b:tG)(S:Fr)(tm r3:List Value->World->Prop)(jh xx nx lO:Bool)(aX:Fr)(w:World)(oi oQ:List Value)(p9 aV hJ ak wy wz:Nat):Prop where
 ext:Ext w0 w
 hC:∀t,t≠a.d->t≠b.d->t≠a.x->t≠b.x->aX t=S t
 df:jh=true->aX a.x = .agg oi.toArray/\oi.length=a.n/\(∀u∈oi,u.oneCell'=true)/\aV<=w.heap.size/\∀bK,Ext w0 bK->w.heap.size<=bK.heap.size->(∀k,p9<=k->k<aV->bK.heap[k]? = w.heap[k]?)->tm oi bK
 bo:xx=true->aX b.x = .agg oQ.toArray/\oQ.length=b.n/\(∀u∈oQ,u.oneCell'=true)/\ak<=w.heap.size/\∀bK,Ext w0 bK->w.heap.size<=bK.heap.size->(∀k,hJ<=k->k<ak->bK.heap[k]? = w.heap[k]?)->r3 oQ bK
 a2:nx=true->aX a.d = .pointer (some ⟨wy,0,none⟩)/\w0.heap.size<=wy/\wy<w.heap.size/\w.heap[wy]? = some (.cells a.z a.ty)
 bR:lO=true->aX b.d = .pointer (some ⟨wz,0,none⟩)/\w0.heap.size<=wz/\wz<w.heap.size/\w.heap[wz]? = some (.cells b.z b.ty)
 o1:jh=true->nx=true->wy<p9\/aV<=wy
 pM:jh=true->lO=true->wz<p9\/aV<=wz
 gl:xx=true->nx=true->wy<hJ\/ak<=wy
 gM:xx=true->lO=true->wz<hJ\/ak<=wz
 atF:nx=true->lO=true->wy≠wz
structure art(a b:tG):Prop where
 d12:a.d≠b.d
 d13:a.d≠a.x
 d14:a.d≠b.x
 d23:b.d≠a.x
 d24:b.d≠b.x
 d34:a.x≠b.x
end
end bb
end
section
namespace bb
open Go Go.RowKit
def Step.num(s:Step):Nat:=match s.dst with | some d=>d | none=>100000
section
variable(P:Program)(w0:World)(c5:List Nat->Fr->World->Prop)
def ss(D:C_ Nat)(s:Step):Prop:=s.g=none/\∀S w,c5 D S w->kd P s.i S w fun v w'=>Ext w0 w'/\c5 (s.num :: D) (put S s.dst v) w'
def RunT(D:C_ Nat)(s:Step):Prop:=s.g=none/\∀S w,c5 D S w->lX P s.i S w0 fun v=>c5 (s.num :: D) (put S s.dst v) w
def hN(fin:C_ Nat):C_ Nat->eJ->Prop
 | D,.done => ∀d∈fin,d∈D
 | _,.nil=>True
 | D,.take s r=>RunT P w0 c5 D s/\hN fin (s.num :: D) r
 | D,.alt s r m=>(ss P w0 c5 D s/\hN fin (s.num :: D) r)/\hN fin D m
 | D,.bk s r m=>(ss P w0 c5 D s/\hN fin (s.num :: D) r)/\hN fin D m
 | _,.wide _=>False
variable{P w0 c5}
theorem hN.alt{fin D:C_ Nat}{s:Step}{r m:eJ}(h1:ss P w0 c5 D s)(I:hN P w0 c5 fin (s.num :: D) r)(ab:hN P w0 c5 fin D m):hN P w0 c5 fin D (.alt s r m):=⟨⟨h1,I⟩,ab⟩
theorem hN.bk{fin D:C_ Nat}{s:Step}{r m:eJ}(h1:ss P w0 c5 D s)(I:hN P w0 c5 fin (s.num :: D) r)(ab:hN P w0 c5 fin D m):hN P w0 c5 fin D (.bk s r m):=⟨⟨h1,I⟩,ab⟩
theorem hN.take{fin D:C_ Nat}{s:Step}{r:eJ}(h1:RunT P w0 c5 D s)(I:hN P w0 c5 fin (s.num :: D) r):hN P w0 c5 fin D (.take s r):=⟨h1,I⟩
theorem hN.nil{fin D:C_ Nat}:hN P w0 c5 fin D .nil:=trivial
theorem hN.done{fin D:C_ Nat}(h:∀d∈fin,d∈D):hN P w0 c5 fin D .done:=h
variable(P w0 c5)
theorem Cm{fin:C_ Nat}{K:Fr->A_->Prop}(iV:∀D S w,(∀d∈fin,d∈D)->c5 D S w->K S w):∀(t:eJ) (D:C_ Nat) (S:Fr) (w:A_),hN P w0 c5 fin D t->c5 D S w->mP P w0 t S w K
 | .done,D,S,w,h,a8=>iV D S w h a8
 | .nil,_,_,_,_,_=>trivial
 | .take ⟨d,g,i⟩ r,D,S,w,h,a8=>by
  obtain⟨⟨aK,h1⟩,I⟩:=h;cases aK;exact lX.mono (fun v aG=>Cm iV r _ _ w I aG) (h1 S w a8)
 | .alt ⟨d,g,i⟩ r m,D,S,w,h,a8=>by
  obtain⟨⟨⟨aK,h1⟩,I⟩,ab⟩:=h;cases aK;refine⟨?_,Cm iV m D S w ab a8⟩;show kd P i S w fun v w'=>Ext w0 w'/\mP P w0 r (put S d v) w' K;exact kd.mono (fun v w' aG=>⟨aG.1,Cm iV r _ _ w' I aG.2⟩) (h1 S w a8)
 | .bk ⟨d,g,i⟩ r m,D,S,w,h,a8=>by
  obtain⟨⟨⟨aK,h1⟩,I⟩,ab⟩:=h;cases aK;refine⟨?_,Cm iV m D S w ab a8⟩;show lV P i S w fun v w'=>mP P w0 r (put S d v) w' K;refine lV.of ?_;exact kd.mono (fun v w' aG=>Cm iV r _ _ w' I aG.2) (h1 S w a8)
 | .wide _,_,_,_,h,_=>h.elim
end
theorem AB2{P:D_}{w:A_}{S:Fr}{Q:ed->Fr->A_->Prop}{t:eJ}{mi}(l:C_ Step)(ig:eJ)(aB:strip t=(l,ig))
  (hk:∀w1,Ext w w1->lP P l S w1 (fun aX => ∃c5 fin,hN P w1 c5 fin [] ig/\c5 [] aX w1/\∀D kB aH,(∀d∈fin,d∈D)->c5 D kB aH->Q .normal kB aH) ⟨⟩):dO P (.dM t) Q S w mi:=by
 unfold dO lP at *;show ec P (.dM t) _ S w;intro w1 he;refine Ct t S ?_;have h:=hk w1 he;rw[aB];refine zZ l S w1 _ _ (fun aX _ bd=>?_) h;obtain⟨c5,fin,h1,I,ab⟩:=bd;exact Cm P w1 c5 ab ig [] aX w1 h1 I
end bb
end
section
namespace bb
open Go Go.RowKit
theorem _t{P:D_}{w1 w:A_}{S:Fr}{t:eJ}{K:Fr->A_->Prop}{mi}(h:∃C:A_->Prop,C w/\eg P C t S w K):fT P w1 (.wide t) S w K mi:=by
 unfold fT;exact h
section
variable{P:Program}{C:World->Prop}{S:Fr}{w:World}{K:Fr->World->Prop}
theorem eg.jh{k d x:Nat}{r:eJ}{a:Addr}(ag:S x = .pointer (some a))(h:eg P C r (bW S d (.pointer (some (a.add k)))) w K):eg P C (.take ⟨some d,none,.p (.jh k (.tmp x))⟩ r) S w K:=⟨a,ag,h⟩
theorem eg.ld{d x:Nat}{r:eJ}{a:Addr}{v:B_}(ag:S x = .pointer (some a))(aG:∀w,C w->w.cell? a=some v)(h:eg P C r (bW S d v) w K):eg P C (.take ⟨some d,none,.r (.ld (.tmp x))⟩ r) S w K :=
 ⟨v,fun w hw=>⟨a,v,ag,aG w hw,rfl⟩,h⟩
theorem eg.AS{s:Step}{r:eJ}(h:lZ P C s S w fun S w=>eg P C r S w K):eg P C (.alt s r .nil) S w K:=⟨h,trivial⟩
theorem eg.za{s:Step}{r:eJ}(h:pb P s S w fun S w=>eg P C r S w K):eg P C (.bk s r .nil) S w K:=⟨h,trivial⟩
end
theorem lZ.e{P:D_}{C:A_->Prop}{i:sf}{d:Nat}{S:Fr}{w:A_}{k:Fr->A_->Prop}(h:nF P i S w fun v w'=>C w'/\k (put S (some d) v) w'):lZ P C ⟨some d,none,.e i⟩ S w k:=h
theorem pb.e{P:D_}{i:sf}{d:Nat}{S:Fr}{w:A_}{k:Fr->A_->Prop}(h:nF P i S w fun v w'=>k (put S (some d) v) w'):pb P ⟨some d,none,.e i⟩ S w k:=h
theorem ado{P:D_}{ty e:F_}{sz b:Nat}{s x:B_}{w:A_}{K:B_->A_->Prop}(h:∀t,mR P ty e sz b s x w K t):yx P ty e sz b s x w K:=by
 have:=h ⟨⟩
 unfold mR at this;exact this
theorem QW{x v:B_}{w:A_}{K:A_->Prop}(h:∀t,qu x v w K t):u7 x v w K:=by
 have:=h ⟨⟩
 unfold qu at this;exact this
abbrev ct(s:H_ Addr×Nat×Nat):B_:=.slice s.1 s.2.1 s.2.2
def dJ{β:Type}(f:Nat->β)(i:Nat)(v:β):Nat->β:=fun j=>if j=i then v else f j
theorem Ku{β:Type}(f:Nat->β)(i:Nat)(v:β):dJ f i v i=v:=by simp[dJ]
theorem Fs{β:Type}(f:Nat->β){i j:Nat}(v:β)(h:j≠i):dJ f i v j=f j:=by simp[dJ,h]
structure ix{α:Type}(enc:α->List Value)(e:TypeId)(sz base:Nat)(w:World)(n:Nat)(vs:Nat->Option Addr×Nat×Nat)(xs:Nat->List α):Prop where
 own:∀i,i<n->aW enc e sz base w (ct (vs i)) (xs i)
 apart:∀i j k,i<n->j<n->i≠j->(ct (vs i)).ownBlock=some k->(ct (vs j)).ownBlock≠some k
section
variable{α:Type}{enc:α->List Value}{e:TypeId}{sz base n:Nat}{w w':World}{vs:Nat->Option Addr×Nat×Nat}{xs:Nat->List α}
theorem ix.mod{A:Nat->Prop}(h:ix enc e sz base w n vs xs)(m:Mod A w w')(dh:∀i k,i<n->(ct (vs i)).ownBlock=some k->¬A k):ix enc e sz base w' n vs xs :=
 ⟨fun i U=>(h.own i U).mod m (dh i · U),h.apart⟩
theorem ix.ext(h:ix enc e sz base w n vs xs)(m:Ext w w'):ix enc e sz base w' n vs xs:=h.mod (A:=fun _=>False) m.mod fun _ _ _ _ a=>a
theorem ix.not(h:ix enc e sz base w n vs xs){k:Nat}{c:Array B_}{t:F_}(hk:w.heap[k]? = some (.cells c t))(aB:t≠e):∀i,i<n->(ct (vs i)).ownBlock≠some k:=fun i U he=>by
 obtain⟨cur,I⟩:=(h.own i U).cu k he;rw[hk] at I;injection I with I;injection I with _ I;exact aB I
theorem ix.lt(h:ix enc e sz base w n vs xs):∀i k,i<n->(ct (vs i)).ownBlock=some k->base<=k/\k<w.heap.size:=fun i k U he=>(h.own i U).lt k he
theorem ix.app{P:D_}{cW:B_->A_->Prop}{ty:F_}{b:Nat}{a:Addr}{c:Nat}{y:α}(i:Nat)(U:i<n)(h:ix enc e sz base w n vs xs)(dy:∀x,(enc x).length=sz)(ah:e0 w a (enc y))(h1:∀y,∀u∈enc y,u.oneCell'=true)
  (ak:((xs i).length+1)*b<=140737488355328)(my:(xs i).length+1<=maxLen)(lG:base<=w.heap.size)
  (hk:∀b9 w',ix enc e sz base w' n (dJ vs i b9) (dJ xs i (xs i++[y]))->w.grownBy w' (ct (vs i)).ownBlock->b9.2.1=(xs i).length+1->cW (ct b9) w'):yx P ty e sz b (ct (vs i)) (.slice (some a) 1 c) w cW:=by
 refine ado fun t=>_X (ys:=[y]) (h.own i U) dy (by simpa using ah) rfl h1 ak my lG fun b9 w' aM aK kJ=>?_;obtain⟨aQ,cap,rfl,_⟩:=aM.form;refine hk (aQ,(xs i++[y]).length,cap) w' ⟨fun j aE=>?_,fun j Pm k aE et cw he=>?_⟩ aK (by simp)
 .by_cases hF:j=i
  .subst hF;rw[Ku,Ku];exact aM
  .rw[Fs _ _ hF,Fs _ _ hF];exact(h.own j aE).mod (A:=fun k=>(ct (vs i)).ownBlock=some k) (Mod.grown aK fun k hk=>hk) fun k hk a=>h.apart j i k aE U hF hk a
 .have key:∀q,q<n->q≠i->∀k,(ct (vs q)).ownBlock=some k->(Value.slice aQ (xs i++[y]).length cap).ownBlock≠some k:=fun q au OB k hk he=>by
   rcases kJ with e | e
   .rw[e] at he;exact h.apart q i k au U OB hk he
   .rw[e] at he;injection he with he;have:=(h.lt q k au hk).2;omega
  by_cases hF:j=i
  .subst hF;rw[Ku] at he;rw[Fs _ _ (Ne.symm cw)];exact fun I=>key Pm et (Ne.symm cw) k I he
  .rw[Fs _ _ hF] at he;by_cases XW:Pm=i
   .subst XW;rw[Ku];exact key j aE hF k he
   .rw[Fs _ _ XW];exact h.apart j Pm k aE et cw he
end
end bb
end
section
namespace bb
open Go Go.RowKit
theorem bh.sub{α:Type}{sz:Nat}{R:A_->Addr->α->Prop}{w:A_}{aQ:H_ Addr}{n c:Nat}{xs:C_ α}(h:bh sz R w (.slice aQ n c) xs)(l u:Nat)(aF:l<=u)(hu:u<=xs.length) :
  bh sz R w (.slice (if c=l then aQ else aQ.map (·.add (l*sz))) (u - l) (c - l)) ((xs.drop l).take (u - l)) :=
 (h.tail l (by omega)).head (u - l) (by rw[List.length_drop];omega)
section
variable{P:Program}{aC:Value->Prop}{S:Fr}{w:World}
theorem _b{α:Type}{sz n cap:Nat}{R:A_->Addr->α->Prop}{aQ:H_ Addr}{x y:G_}{k k':IntKind}{xs:C_ α}{t}(l u:Nat)(an:bh sz R w (.slice aQ n cap) xs)(ag:aS S x = .int k (l:Int))(bS:aS S y = .int k' (u:Int))(aF:l<=u)(hu:u<=xs.length)
  (hk:∀ad c,bh sz R w (.slice ad (u - l) c) ((xs.drop l).take (u - l))->aC (.slice ad (u - l) c)):su S sz (.slice aQ n cap) (some x) (some y) none aC t:=by
 obtain⟨bt,aI,ba⟩:=an.len;refine _C l u cap (by simp[eG,ag]) (by simp[eG,bS]) (by simp[eG]) ⟨aF,by omega,Nat.le_refl _⟩ (by simp) ?_;exact hk _ _ (an.sub l u aF hu)
theorem _8{b i j:Nat}{c:C_ B_}{ty:F_}{f:Nat×Nat}{v:B_}{w0:A_}{t}(ak:w0.heap[b]? = some (.cells c.toArray ty f))(he:Ext w0 w)(aE:c[i+j]? = some v)(hk:aC v):rm (.pointer (some ((Addr.add ⟨b,0,none⟩ i).add j))) w aC t:=by
 rw[add_add];exact _K ak he aE hk
end
theorem aa{A B:Prop}(k:B)(h:wX B->A:=by
 intro q
 (repeat' first
 | assumption
 | exact Ext.refl _
 | refine Ext.trans ?_ (by assumption)
 | simp -dsimp only[c0,cB,Nat.reduceAdd,Nat.reduceEqDiff,reduceIte,reduceCtorEq,dd,wF,wE,wc,wb,vB,vA,List.cons_append,List.nil_append]
 | refine Q_ (by omega) ?_
 | refine _K (by assumption) ?_ rfl ?_
 | refine _D (by assumption) ?_ rfl ?_
 | refine _T (by omega) ?_
 | refine _R (by first | assumption | omega) ?_
 | refine _S (by first | assumption | omega) ?_
 | refine _G (by assumption) ?_
 | refine _H (by assumption) ?_
 | refine _O (by assumption) ?_ (by omega) rfl ?_
 | refine _P (by assumption) ?_ (by omega) rfl ?_
 | refine _Q (by assumption) ?_ (by omega) rfl ?_
 | refine _8 (by assumption) ?_ rfl ?_
 | refine _z (by assumption) ?_ rfl ?_
 | refine _0 (by assumption) ?_ rfl ?_
 | refine R_ (by assumption) ?_ rfl ?_
 | refine _L (fun _=>by (simp -dsimp only[c0,Nat.reduceAdd,Nat.reduceEqDiff,reduceIte,reduceCtorEq,dd]);rfl) rfl rfl (by first | assumption | (simp[Value.oneCell',o.cZ.enc,o.Ref.enc,o.Node.enc,o.Scalar.enc,o.Var.enc,o.dv.enc,o.Act.enc,o.dI.enc,o.dz.enc,o.k0.enc];done)) ?_
 | refine O_ ?_
 | refine T_ (by assumption) rfl rfl (by first | assumption | (simp[Value.oneCell',o.cZ.enc,o.Ref.enc,o.Node.enc,o.Scalar.enc,o.Var.enc,o.dv.enc,o.Act.enc,o.dI.enc,o.dz.enc,o.k0.enc];done)) ?_
 | refine _F (by assumption) (Nat.le_of_ble_eq_true rfl) rfl ?_
 | refine _V (by assumption) (Nat.le_of_ble_eq_true rfl) rfl ?_
 | refine Y_ (by (simp only[eW,lay,nT,dp,bL,Value.cells,Nat.reduceAdd,Nat.reduceEqDiff,reduceIte,List.range,List.range.loop,List.map_cons,List.map_nil]);rfl) ?_
 | refine W_ (by (simp only[eW,lay,nT,dp,bL,Value.cells,Nat.reduceAdd,Nat.reduceEqDiff,reduceIte]);rfl) ?_)
 exact q.out):A:=h ⟨k⟩
end bb
namespace bb
open Go Go.RowKit
section
variable{P:Program}{aC:Value->Prop}{cX c6:Operand}
theorem _9{t:F_}{p:H_ Addr}{mi}(h:P.underlying t=some (.pointer (P.pointee t)))(hk:aC (.bool (!p.isNone))):gA P .neq t cX c6 (.pointer p) (.pointer none) aC mi :=
 _N (v:=.bool (!p.isNone)) (fun w=>by simp[eqGuard_at_pointer,binOp,run_equal_pointer_nil w t p h]) hk
theorem AB3{t:F_}{mi}(h:P.underlying t=some (.pointer (P.pointee t)))(hk:aC (.bool false)):gA P .neq t cX c6 (.pointer none) (.pointer none) aC mi:=_9 h hk
theorem AB4{t:F_}{a:Addr}{mi}(h:P.underlying t=some (.pointer (P.pointee t)))(hk:aC (.bool true)):gA P .neq t cX c6 (.pointer (some a)) (.pointer none) aC mi:=_9 h hk
end
end bb
end
section
namespace o
open Go
structure Scope where
 scalars:List Scalar
 vars:List Var
 aw:List dv
 procs:List dz
 locals:List Var
 self:Int
structure Env where
 vars:List (List Int)
 lens:List Int
 locals:List Int
 at_:List (List Int)
 self:Int
def nth{α:Type}(l:C_ α)(n:Int):H_ α:=if 0<=n then l[n.toNat]? else none
theorem ja{α:Type}{l:C_ α}{n:Int}(h:0<=n)(I:n<l.length):nth l n=some (l[n.toNat]'(by omega)):=by
 unfold nth;rw[if_pos h,List.getElem?_eq_getElem]
theorem gX{α:Type}{l:C_ α}{n:Int}(h:n<0\/(l.length:Int)<=n):nth l n=none:=by
 unfold nth;split
 .rw[List.getElem?_eq_none (by omega)]
 .rfl
def within(n:Int):Bool:=decide (-1048576<=n/\n<=1048576)
def tell(f:Int->Int->Int)(a b:Int):Int×Bool:=if within a&&within b&&within (f a b) then (f a b,true) else (0,false)
def bit(b:Bool):Int:=if b then 1 else 0
def fc(op:Int):Int:=if op=3 then 1 else if 1<=op/\op<=8 then 0 else if op=9\/op=10 then 1 else if 11<=op/\op<=19 then 2 else -1
def x4(op:Int):Bool:=decide (9<=op/\op<=19)
structure oU where
 parts:Int
 jq:Int
 makes:Int
 y4:Int->Int->Int×Bool
def z1(jq:Int)(p:Int->Int->Bool):oU:=⟨2,jq,1,fun a b=>(bit (p a b),true)⟩
def gQ(x:Int):H_ oU :=
 if x=9 then some ⟨1,1,1,fun a _=>(bit (decide (a=0)),true)⟩
 else if x=10 then some ⟨1,0,0,fun a _=>tell (· - ·) 0 a⟩
 else if x=11 then some ⟨2,0,0,tell (· + ·)⟩
 else if x=12 then some ⟨2,0,0,tell (· - ·)⟩
 else if x=13 then some ⟨2,0,0,tell (· * ·)⟩
 else if x=14 then some (z1 (-1) fun a b=>decide (a=b))
 else if x=15 then some (z1 (-1) fun a b => !decide (a=b))
 else if x=16 then some (z1 0 fun a b=>decide (a<b))
 else if x=17 then some (z1 0 fun a b=>decide (a<=b))
 else if x=18 then some (z1 1 fun a b => !decide (a=0) && !decide (b=0))
 else if x=19 then some (z1 1 fun a b => !decide (a=0) || !decide (b=0))
 else none
theorem PZ{x:Int}(h:x4 x=false):gQ x=none:=by
 have bd:¬(9<=x/\x<=19):=by simpa[x4] using h
 unfold gQ
 repeat rw[if_neg (by omega)]
theorem Fk{x:Int}{ad:oU}(h:gQ x=some ad):ad.parts=fc x/\x4 x=true:=by
 unfold gQ at h
 repeat' split at h
 all_goals first | (cases h;subst_vars;decide) | cases h
def stepG(f:Node->C_ Int->Int×Int)(x:Node)(st:C_ Int):Int×C_ Int :=
 if fc x.op<0 then (3,st) else if (st.length:Int)<fc x.op then (4,st)
 else if (f x st).2≠0 then ((f x st).2,st)
 else if (st.take (st.length - (fc x.op).toNat)++[(f x st).1]).length > 12 then (12,st) else (0,st.take (st.length - (fc x.op).toNat)++[(f x st).1])
def eZ(f:Node->C_ Int->Int×Int):C_ Node->C_ Int->Int×C_ Int
 | [],st=>(0,st)
 | x :: r,st=>if (stepG f x st).1≠0 then stepG f x st else eZ f r (stepG f x st).2
def kV(f:Node->C_ Int->Int×Int)(e:C_ Node):Int×Int :=
 if e.length > 24 then (0,5) else if e.length=0 then (0,4)
 else if (eZ f e []).1≠0 then (0,(eZ f e []).1) else if (eZ f e []).2.length > 1 then (0,5) else ((eZ f e []).2.headD 0,0)
theorem Fy(f:Node->C_ Int->Int×Int):∀(a b:C_ Node) (st:C_ Int),eZ f (a++b) st=if (eZ f a st).1≠0 then eZ f a st else eZ f b (eZ f a st).2
 | [],b,st=>by simp[eZ]
 | x :: a,b,st=>by
  simp only[List.cons_append,eZ];by_cases h:(stepG f x st).1=0
  .simp only[h,ne_eq,not_true_eq_false,if_false];exact Fy f a b _
  .simp[h]
theorem yk{f:Node->C_ Int->Int×Int}{e:C_ Node}{k:Nat}{st:C_ Int}(hk:k<e.length)(h:eZ f (e.take k) []=(0,st)):eZ f (e.take (k+1)) []=stepG f e[k] st:=by
 rw[List.take_succ_eq_append_getElem hk,Fy,h];simp only[ne_eq,not_true_eq_false,if_false,eZ];split
 .rfl
 .rename_i I;simp at I;exact Prod.ext I.symm rfl
theorem QE{f:Node->C_ Int->Int×Int}{e:C_ Node}{k:Nat}{q:Int×C_ Int}(h:eZ f (e.take k) []=q)(af:q.1≠0):eZ f e []=q:=by
 have:=Fy f (e.take k) (e.drop k) []
 rw[List.take_append_drop,h,if_pos af] at this;exact this
theorem QD{f:Node->C_ Int->Int×Int}{e:C_ Node}(vw:e.length<=24){k:Nat}(hk:k<e.length){st:C_ Int}(h:eZ f (e.take k) []=(0,st))(af:(stepG f e[k] st).1≠0):kV f e=(0,(stepG f e[k] st).1):=by
 have I:=yk hk h;have ab:=QE I af;unfold kV;rw[if_neg (by omega),if_neg (by omega),ab,if_pos af]
theorem ap1{f:Node->C_ Int->Int×Int}{x:Node}{st:C_ Int}(h:(stepG f x st).1=0):1<=(stepG f x st).2.length/\(stepG f x st).2.length<=12:=by
 unfold stepG at h ⊢
 repeat' split
 all_goals simp_all
theorem ap0{f g:Node->C_ Int->Int×Int}{x:Node}{st:C_ Int}(h:0<=fc x.op->fc x.op<=st.length->(f x st).2=(g x st).2/\((f x st).2=0->(f x st).1=(g x st).1)):stepG f x st=stepG g x st:=by
 unfold stepG;split
 .rfl
 .split
  .rfl
  .obtain⟨h1,I⟩:=h (by omega) (by omega);rw[<-h1];split
   .rfl
   .rename_i ab;simp at ab;rw[I ab]
def hv(n:Int)(s:Scope):Int×Bool:=if n=0 then (0,true) else if n<0\/(s.scalars.length:Int)<n then (0,false) else (1+n,true)
def fY(l:C_ Var)(n:Int)(s:Scope):Int×Int×Bool :=
 match nth l n with
 | some v=>((hv v.scalar s).1,(hv v.over s).1,(hv v.scalar s).2&&(hv v.over s).2)
 | none=>(0,0,false)
def j8(n:Int)(s:Scope):Int×Int:=match nth s.aw n with | some c=>if (hv c.scalar s).2 then (0,0) else (0,8) | none=>(0,8)
def B2(n:Int)(s:Scope):Int×Int:=if 0<=n then (match nth s.procs (n.tdiv 16) with | some p=>if n.tmod 16<p.b8 then (0,0) else (0,8) | none=>(0,8)) else (0,8)
def mc(x:Node)(s:Scope):Int×Int :=
 if x.op=5 then (if 1<=s.self/\s.self<=s.scalars.length then (1+s.self,0) else (0,8))
 else if x.op=6 then j8 x.n s
 else if x.op=7 then B2 x.n s
 else if x.op=8 then (if 0<=x.n/\x.n<s.scalars.length then (2+x.n,0) else (0,8))
 else (0,8)
def iY(x:Node)(s:Scope)(top:Int):Int×Int :=
 if x.op=1 then (if within x.n then (0,0) else (0,10))
 else if x.op=2\/x.op=3\/x.op=4 then
  (let q:=fY (if x.op=4 then s.locals else s.vars) x.n s
   if q.2.2=false then (0,8) else if (x.op=3/\(q.2.1=0\/top≠q.2.1))\/(x.op≠3/\q.2.1≠0) then (0,9) else (q.1,0))
 else mc x s
def n3(ad:oU)(l:C_ Int):Int×Int:=if l.all (fun k=>(decide (ad.jq = -1)||decide (k=ad.jq))&&decide (k=l.headD 0)) then (ad.makes,0) else (0,9)
def fk(s:Scope)(x:Node)(st:C_ Int):Int×Int :=
 match gQ x.op with
 | some ad=>n3 ad (st.drop (st.length - ad.parts.toNat))
 | none=>iY x s (st.getLastD 0)
def kind(e:C_ Node)(s:Scope):Int×Int:=kV (fk s) e
def gH(l:C_ Int)(n:Int):Int×Int:=match nth l n with | some x=>(x,0) | none=>(0,8)
def gv(x:Node)(v:Env)(top:Int):Int×Int :=
 if x.op=1 then (if within x.n then (x.n,0) else (0,10))
 else if x.op=2 then (match nth v.vars x.n with | some l=>gH l 0 | none=>(0,8))
 else if x.op=3 then (match nth v.vars x.n with | some l=>(match nth l (top - 1) with | some y=>(y,0) | none=>(0,10)) | none=>(0,8))
 else if x.op=4 then gH v.locals x.n
 else if x.op=6 then gH v.lens x.n
 else if x.op=5 then (v.self,0)
 else if x.op=7 then (if 0<=x.n then (match nth v.at_ (x.n.tdiv 16) with | some l=>gH l (x.n.tmod 16) | none=>(0,8)) else (0,8))
 else (0,0)
def wL(ad:oU)(l:C_ Int):Int×Int:=let r:=ad.y4 (l.headD 0) (l.getLastD 0);if r.2 then (r.1,0) else (0,10)
def iB(v:Env)(x:Node)(st:C_ Int):Int×Int :=
 match gQ x.op with
 | some ad=>wL ad (st.drop (st.length - ad.parts.toNat))
 | none=>gv x v (st.getLastD 0)
def eval(e:C_ Node)(v:Env):Int×Int:=kV (iB v) e
def lx(scalar over:Int)(s:Scope):Int×Bool :=
 if scalar<0\/(s.scalars.length:Int)<scalar\/over<0\/(s.scalars.length:Int)<over then (0,false) else if scalar=0 then (0,true) else (1+scalar,true)
theorem aqd{a b:Int}{s:Scope}(h:(lx a b s).2=false):(lx a b s).1=0:=by
 unfold lx at h ⊢;by_cases q:a<0\/(s.scalars.length:Int)<a\/b<0\/(s.scalars.length:Int)<b
 .rw[if_pos q]
 .rw[if_neg q] at h;by_cases dq:a=0
  .rw[if_pos dq] at h;cases h
  .rw[if_neg dq] at h;cases h
def declared(l:C_ Var)(n:Int)(s:Scope):H_ (Var×Int) :=
 match nth l n with
 | some v=>if (lx v.scalar v.over s).2 then some (v,(lx v.scalar v.over s).1) else none
 | none=>none
theorem ae6{l:C_ Var}{n:Int}{s:Scope}{q:Var×Int}(h:declared l n s=some q):0<=q.1.over/\q.1.over<=s.scalars.length:=by
 unfold declared at h;cases ay:nth l n with
 | none=>rw[ay] at h;cases h
 | some v =>
  rw[ay] at h;simp only at h;by_cases aB:(lx v.scalar v.over s).2=true
  .rw[if_pos aB] at h;unfold lx at aB;by_cases cV:v.scalar<0\/(s.scalars.length:Int)<v.scalar\/v.over<0\/(s.scalars.length:Int)<v.over
   .rw[if_pos cV] at aB;cases aB
   .injection h with h
    subst h;simp only;omega
  .rw[if_neg aB] at h;cases h
def channel(n:Int)(s:Scope):H_ Int :=
 match nth s.aw n with
 | some c=>if (lx c.scalar 0 s).2 then some (lx c.scalar 0 s).1 else none
 | none=>none
def asked(e:C_ Node)(k:Int)(s:Scope):Int:=if (kind e s).2≠0 then (kind e s).2 else if (kind e s).1≠k then 9 else 0
def hX(a:Act):Bool:=decide (a.kind=4\/a.kind=5)
def Fx(a:Act)(k:Int)(s:Scope):Int:=match declared s.locals a.loc s with | some (v,k')=>if v.over≠0\/k'≠k then 9 else 0 | none=>8
def kg(a:Act)(s:Scope):Int :=
 if a.kind=1\/a.kind=2\/a.kind=3 then
  match declared (if a.kind=3 then s.locals else s.vars) a.to s with
  | none=>8
  | some (v,k) =>
   if (v.over≠0)≠(a.kind=2) then 9
   else if a.kind=2/\asked a.index (1+v.over) s≠0 then asked a.index (1+v.over) s
   else asked a.value k s
 else if a.kind=4\/a.kind=5 then
  match channel a.to s with
  | none=>8
  | some k=>if a.kind=5 then Fx a k s else asked a.value k s
 else 3
def head(c:dI)(b8:Int):Int :=
 if isName c.name=false then 6 else if c.from_<0\/b8<=c.from_\/c.to<0\/b8<=c.to then 10 else if c.bY.length > 6 then 11 else 0
def kC(s:Scope):C_ Act->Nat->Bool->Int×Int
 | [],_,_=>(0,0)
 | a :: r,i,t=>if hX a&&t then (2+i,7) else if kg a s≠0 then (2+i,kg a s) else kC s r (i+1) (t||hX a)
def jg(c:dI)(b8:Int)(s:Scope):Int×Int :=
 if head c b8≠0 then (0,head c b8) else if c.guard.length > 0/\asked c.guard 1 s≠0 then (1,asked c.guard 1 s) else kC s c.bY 0 false
def comm:C_ Act->Int×Int
 | []=>(0,0)
 | a :: r=>if hX a then (a.kind,a.to) else comm r
def ways(c:dI)(l:C_ dv):Int:=if (comm c.bY).1=4 then (match nth l (comm c.bY).2 with | some x=>if x.ZL then 2 else 1 | none=>1) else 1
def inner(p:dz)(s:Scope):Scope:={ s with locals:=p.vars,self:=p.over }
def whole(p:dz)(s:Scope):Int :=
 if isName p.name=false then 6 else if p.over<0\/(s.scalars.length:Int)<p.over then 8 else if p.b8<1\/12<p.b8 then 10 else if p.cL.length > 12 then 11 else 0
def qb(s:Scope):C_ Var->Nat->Int×Int
 | [],_=>(0,0)
 | v :: r,i=>if v.over≠0 then (i,9) else if s.vars.any (fun x=>decide (x.name=v.name)) then (i,7) else qb s r (i+1)
def lu(p:dz)(s:Scope):Int×Int:=if (vars p.vars s.scalars 4).2≠0 then vars p.vars s.scalars 4 else qb s p.vars 0
def lC(own:Scope)(b8:Int)(all:C_ dI):C_ dI->Nat->Int×Int×Int
 | [],_=>(0,0,0)
 | c :: r,i=>if (jg c b8 own).2≠0 then (2+(i:Int),(jg c b8 own).1,(jg c b8 own).2)
  else if (all.take i).any (fun x=>decide (x.name=c.name)) then (2+(i:Int),0,7) else lC own b8 all r (i+1)
def hU(p:dz)(s:Scope):Int×Int×Int :=
 if whole p s≠0 then (0,0,whole p s) else if (lu p s).2≠0 then (1,(lu p s).1,(lu p s).2) else lC (inner p s) p.b8 p.cL p.cL 0
def ey(m:Model):Scope:=⟨m.scalars,m.vars,m.aw,m.procs,[],0⟩
def hi(m:Model)(i:Int):Scope:=match nth m.procs i with | some p=>inner p (ey m) | none=>ey m
def elems(m:Model)(p:dz):Nat:=match nth m.scalars (p.over - 1) with | some s=>if s.size<1\/4<s.size then 0 else s.size.toNat | none=>0
theorem DA(m:Model)(p:dz):elems m p<=4:=by
 unfold elems;split
 .split
  .omega
  .omega
 .omega
def jF(i:Nat)(n:Nat):C_ cZ:=(List.range n).map fun(k:Nat)=>(⟨(i:Int),(k:Int)+1⟩:cZ)
def jb(i:Nat)(p:dz):C_ cZ:=if p.over=0 then [(⟨(i:Int),0⟩:cZ)] else []
def jD(m:Model):C_ dz->Nat->C_ cZ
 | [],_=>[]
 | p :: r,i=>jb i p++jF i (elems m p)++jD m r (i+1)
def insts(m:Model):C_ cZ:=jD m m.procs 0
theorem aag(i n:Nat):jF i (n+1)=jF i n++[⟨(i:Int),(n:Int)+1⟩]:=by unfold jF;rw[List.range_succ,List.map_append];rfl
theorem YR{m:Model}{k:Nat}(h:k<m.procs.length):jD m (m.procs.drop k) k=jb k m.procs[k]++jF k (elems m m.procs[k])++jD m (m.procs.drop (k+1)) (k+1):=by
 rw[List.drop_eq_getElem_cons h];rfl
theorem anb(i:Nat)(p:dz):(jb i p).length<=1:=by unfold jb;split<;>simp
theorem YT(m:Model):∀(l:C_ dz) (i:Nat),(jD m l i).length<=5*l.length
 | [],_=>by simp[jD]
 | p :: r,i=>by
  have:=YT m r (i+1)
  have:=DA m p
  have:=anb i p
  simp only[jD,List.length_append,List.length_cons,jF,List.length_map,List.length_range];omega
theorem uo(m:Model):(insts m).length<=5*m.procs.length:=YT m _ _
structure cZ.of(m:Model)(x:cZ):Prop where
 aO:0<=x.proc
 U:x.proc<m.procs.length
 elem:0<=x.elem/\x.elem<=4
theorem ana{m:Model}{i:Nat}(U:i<m.procs.length){n:Nat}(ay:n<=4):∀x∈jF i n,x.of m:=fun x ag=>by
 unfold jF at ag;obtain⟨k,hk,rfl⟩:=List.mem_map.1 ag
 have:=List.mem_range.1 hk
 exact⟨by simp,by simpa using U,by constructor<;>simp<;>omega⟩
theorem anc{m:Model}{i:Nat}(U:i<m.procs.length){p:dz}:∀x∈jb i p,x.of m:=fun x ag=>by
 unfold jb at ag;split at ag
 .rw[List.mem_singleton] at ag;subst ag;exact⟨by simp,by simpa using U,by simp⟩
 .cases ag
theorem YV{m:Model}:∀(l:C_ dz) (i:Nat),i+l.length<=m.procs.length->∀x∈jD m l i,x.of m
 | [],_,_,x,ag=>by simp[jD] at ag
 | p :: r,i,h,x,ag=>by
  simp only[jD,List.mem_append] at ag;simp only[List.length_cons] at h;rcases ag with (ag | ag) | ag
  .exact anc (by omega) x ag
  .exact ana (by omega) (DA m p) x ag
  .exact YV r (i+1) (by omega) x ag
theorem rW{m:Model}:∀x∈insts m,x.of m:=YV _ _ (by simp)
def wq(m:Model)(x:cZ):Nat:=match nth m.procs x.proc with | some p=>p.cL.length | none=>0
def refsOf(i:Int)(n:Nat):C_ Ref:=(List.range n).map fun(k:Nat)=>(⟨i,(k:Int)⟩:Ref)
theorem aoH(i:Int)(n:Nat):refsOf i (n+1)=refsOf i n++[⟨i,(n:Int)⟩]:=by unfold refsOf;rw[List.range_succ,List.map_append];rfl
def tr(m:Model):C_ cZ->Nat->C_ Ref
 | [],_=>[]
 | x :: r,i=>refsOf i (wq m x)++tr m r (i+1)
def refs(m:Model):C_ Ref:=tr m (insts m) 0
def mf(m:Model)(s:Int×cZ×C_ Ref)(x:cZ):Int×cZ×C_ Ref:=((if x≠s.2.1 then s.1+1 else s.1),x,s.2.2++refsOf (if x≠s.2.1 then s.1+1 else s.1) (wq m x))
structure sh where
 cA:Int
 part:Int
 item:Int
 sub:Int
deriving DecidableEq
def tV:sh:=⟨0,0,0,0⟩
abbrev Ff(m:Model):C_ ByteArray:=m.scalars.map (·.name)
abbrev zS(m:Model)(i:Nat):C_ ByteArray:=(m.vars.take i).map (·.name)
abbrev zR(m:Model)(i:Nat):C_ ByteArray:=(m.aw.take i).map (·.name)
abbrev yb(m:Model)(i:Nat):C_ ByteArray:=(m.procs.take i).map (·.name)
abbrev PM(m:Model)(i:Nat):C_ ByteArray:=(m.props.take i).map (·.name)
abbrev r1(m:Model)(i:Nat):C_ ByteArray:=Ff m++zS m i
abbrev nw(m:Model)(i:Nat):C_ ByteArray:=r1 m m.vars.length++zR m i
abbrev iZ(m:Model)(i:Nat):C_ ByteArray:=nw m m.aw.length++yb m i
abbrev r0(m:Model)(i:Nat):C_ ByteArray:=iZ m m.procs.length++PM m i
def og(m:Model):Nat->Int:=err 12 (nameAt (·.name) m.vars) (py m.vars m.scalars)
def nS(m:Model):Nat->Int:=err 4 (nameAt (·.name) m.aw) (o7 m.aw m.scalars)
def jy(m:Model)(i:Nat):Int:=if og m i≠0 then og m i else if nameAt (·.name) m.vars i∈r1 m i then 7 else 0
def kk(m:Model)(i:Nat):Int:=if nS m i≠0 then nS m i else if nameAt (·.name) m.aw i∈nw m i then 7 else 0
def qF(m:Model)(p:dz)(k:Nat):Int:=if nameAt (·.name) p.vars k∈iZ m m.procs.length then 7 else 0
def iA(m:Model)(i:Nat):Int×Int :=
 match m.procs[i]? with
 | none=>(0,0)
 | some p=>if 6<=i then (11,0)
  else if (hU p (hi m i)).2.2≠0 then ((hU p (hi m i)).2.2,16*(hU p (hi m i)).1+(hU p (hi m i)).2.1)
  else if p.name∈iZ m i then (7,0)
  else if (first p.vars.length (qF m p)).2≠0 then (7,16+(first p.vars.length (qF m p)).1)
  else (0,0)
def kU(m:Model)(p:dz):Int:=if p.over=0 then 1 else size p.over m.scalars
def iK(l:C_ Int):Int:=l.foldl (· + ·) 0
def qA(c:dv):Int:=1+min (max c.cap 0) 4
def pieces(m:Model):Int×Int×Int :=
 (iK (m.procs.map (kU m)),iK (m.procs.map fun p=>kU m p*p.cL.length),
  iK (m.vars.map (fun v=>cells v m.scalars))+iK (m.aw.map qA)+iK (m.procs.map fun p=>kU m p*(1+p.vars.length)))
def nd(m:Model)(i:Nat):Int :=
 match m.props[i]? with
 | none=>0
 | some p=>if 8<=i then 11 else if isName p.name=false then 6 else if p.name∈r0 m i then 7
  else if (kind p.expr (ey m)).2≠0 then (kind p.expr (ey m)).2 else if (kind p.expr (ey m)).1≠1 then 9 else 0
def data(m:Model):sh :=
 if (scalars m.scalars).2≠0 then ⟨(scalars m.scalars).2,1,(scalars m.scalars).1,0⟩
 else if (first m.vars.length (jy m)).2≠0 then ⟨(first m.vars.length (jy m)).2,2,(first m.vars.length (jy m)).1,0⟩
 else if (first m.aw.length (kk m)).2≠0 then ⟨(first m.aw.length (kk m)).2,3,(first m.aw.length (kk m)).1,0⟩
 else tV
def me(m:Model):sh :=
 if (first m.procs.length fun i=>(iA m i).1).2≠0 then ⟨(first m.procs.length fun i=>(iA m i).1).2,4,(first m.procs.length fun i=>(iA m i).1).1,(iA m (first m.procs.length fun i=>(iA m i).1).1.toNat).2⟩
 else if 12<(pieces m).1\/64<(pieces m).2.2 then ⟨11,4,m.procs.length,0⟩ else tV
def pr(m:Model):sh:=if (first m.props.length (nd m)).2≠0 then ⟨(first m.props.length (nd m)).2,5,(first m.props.length (nd m)).1,0⟩ else tV
def check(m:Model):sh:=if (data m).cA≠0 then data m else if (me m).cA≠0 then me m else pr m
theorem B6{α:Type}{f:α->ByteArray}{l:C_ α}{i:Nat}(h:i<l.length):nameAt f l i=f l[i]:=by
 unfold nameAt;rw[List.getElem?_eq_getElem h];rfl
theorem al7{p:Nat->Prop}(h:∃j,p j):∃i,p i/\∀k,p k->i<=k:=by
 obtain⟨j,aE⟩:=h
 induction j using Nat.strongRecOn with
 | _ j eS =>
  by_cases ag:∃k,k<j/\p k
  .obtain⟨k,hk,ar⟩:=ag;exact eS k hk ar
  .exact⟨j,aE,fun k ar=>Nat.le_of_not_lt fun ch=>ag ⟨k,ch,ar⟩⟩
theorem vu{n:Nat}{e:Nat->Int}(h:(first n e).2=0):∀j,j<n->e j=0:=by
 intro j aE;apply Classical.byContradiction;intro ay;obtain⟨i,U,h1⟩:=al7 (p:=fun j=>j<n/\e j≠0) ⟨j,aE,ay⟩;rw[ji U.1 (fun k hk=>by
  apply Classical.byContradiction;intro cw;exact absurd (h1 k ⟨by omega,cw⟩) (by omega)) U.2] at h
 exact U.2 h
theorem Wf{n:Nat}{e:Nat->Int}(h:(first n e).2≠0):∃i,i<n/\(first n e).1=(i:Int)/\(first n e).2=e i:=by
 unfold first at h ⊢
 split at h
 .rename_i i U;rw[List.find?_range_eq_some] at U;exact⟨i,by simpa using U.2.1,rfl,rfl⟩
 .exact absurd rfl h
theorem VW{α:Type}{f:α->ByteArray}{l:C_ α}{fC:Int}{mo mo':Nat->Int}{k i:Nat}(U:i<k)(hm:mo i=mo' i):err fC (nameAt f (l.take k)) mo i=err fC (nameAt f l) mo' i:=by
 have ay:∀j,j<k->nameAt f (l.take k) j=nameAt f l j:=fun j aE=>by unfold nameAt;rw[List.getElem?_take_of_lt aE]
 unfold err;rw[ay i U,hm];have he:(∃j,j<i/\nameAt f (l.take k) j=nameAt f l i)↔(∃j,j<i/\nameAt f l j=nameAt f l i) :=
  ⟨fun⟨j,h1,I⟩=>⟨j,h1,by rw[<-ay j (by omega)];exact I⟩,fun⟨j,h1,I⟩=>⟨j,h1,by rw[ay j (by omega)];exact I⟩⟩
 by_cases ag:∃j,j<i/\nameAt f l j=nameAt f l i
 .rw[if_pos (he.2 ag),if_pos ag]
 .rw[if_neg (fun h=>ag (he.1 h)),if_neg ag]
theorem aqM{m:Model}{i:Nat}(U:i<m.vars.length)(bA:∀j,j<i->og m j=0):(vars (m.vars.take (i+1)) m.scalars 12).2=og m i:=by
 unfold vars;have aF:(m.vars.take (i+1)).length=i+1:=by simp;omega
 rw[aF,show(max 12 0:Int)=12 from rfl,We (e':=og m) (fun j aE=>(VW (mo':=py m.vars m.scalars) aE (by unfold py;rw[List.getElem?_take_of_lt aE]):_=og m j))];by_cases af:og m i=0
 .rw[pa fun j aE=>by
   by_cases hF:j=i
   .subst hF;exact af
   .exact bA j (by omega),af]
 .rw[ji (by omega) bA af]
theorem aeF{m:Model}{i:Nat}(U:i<m.aw.length)(bA:∀j,j<i->nS m j=0):(aw (m.aw.take (i+1)) m.scalars).2=nS m i:=by
 unfold aw;have aF:(m.aw.take (i+1)).length=i+1:=by simp;omega
 rw[aF,We (e':=nS m) (fun j aE=>(VW (mo':=o7 m.aw m.scalars) aE (by unfold o7;rw[List.getElem?_take_of_lt aE]):_=nS m j))];by_cases af:nS m i=0
 .rw[pa fun j aE=>by
   by_cases hF:j=i
   .subst hF;exact af
   .exact bA j (by omega),af]
 .rw[ji (by omega) bA af]
theorem aqL(m:Model):vars m.vars m.scalars 12=first m.vars.length (og m):=rfl
theorem aeD(m:Model):aw m.aw m.scalars=first m.aw.length (nS m):=rfl
theorem K4{m:Model}{i:Nat}(h:jy m i=0):og m i=0:=by
 apply Classical.byContradiction;intro ay;unfold jy at h;rw[if_pos ay] at h;exact ay h
theorem GU{m:Model}{i:Nat}(h:kk m i=0):nS m i=0:=by
 apply Classical.byContradiction;intro ay;unfold kk at h;rw[if_pos ay] at h;exact ay h
theorem VX{m:Model}{i:Nat}(h:jy m i=0):i<12:=by
 have h:=K4 h;unfold og err at h;split at h
 .cases h
 .omega
theorem afs{m:Model}{i:Nat}(h:kk m i=0):i<4:=by
 have h:=GU h;unfold nS err at h;split at h
 .cases h
 .omega
theorem HC{m:Model}{i:Nat}(U:i<m.procs.length)(h:(iA m i).1=0):i<6:=by
 unfold iA at h;rw[List.getElem?_eq_getElem U] at h;simp only at h;split at h
 .cases h
 .omega
theorem afK{m:Model}{i:Nat}(U:i<m.props.length)(h:nd m i=0):i<8:=by
 unfold nd at h;rw[List.getElem?_eq_getElem U] at h;simp only at h;split at h
 .cases h
 .omega
theorem abk{m:Model}(h:(scalars m.scalars).2=0):m.scalars.length<=2:=by
 unfold scalars at h
 have:=vu h
 apply Classical.byContradiction;intro ay;have I:=this 2 (by omega);unfold err at I;rw[if_pos (by omega)] at I;cases I
theorem size_le(k:Int)(s:C_ Scalar):0<=size k s/\size k s<=4:=by
 unfold size;split
 .split<;>omega
 .omega
theorem sH(v:Var)(s:C_ Scalar):0<=cells v s/\cells v s<=4:=by
 have:=size_le v.over s
 unfold cells;split<;>omega
theorem Fm(m:Model)(p:dz):0<=kU m p/\kU m p<=4:=by
 have:=size_le p.over m.scalars
 unfold kU;split<;>omega
theorem L9(c:dv):1<=qA c/\qA c<=5:=by unfold qA;omega
theorem ap6(l:C_ Int)(x:Int):iK (l++[x])=iK l+x:=by unfold iK;simp
theorem FK{α:Type}(f:α->Int)(l:C_ α){k:Nat}(h:k<l.length):iK ((l.take (k+1)).map f)=iK ((l.take k).map f)+f l[k]:=by
 rw[List.take_succ_eq_append_getElem h,List.map_append,List.map_cons,List.map_nil,ap6]
theorem FJ{α:Type}(f:α->Int)(B:Int)(km:0<=B):∀(l:C_ α),(∀x∈l,0<=f x/\f x<=B)->0<=iK (l.map f)/\iK (l.map f)<=B*l.length:=by
 have key:∀(l:C_ α) (a:Int),(∀x∈l,0<=f x/\f x<=B)->a<=(l.map f).foldl (· + ·) a/\(l.map f).foldl (· + ·) a<=a+B*l.length:=by
  intro l
  induction l with
  | nil=>intro a _;simp
  | cons x r eS =>
   intro a h;have ag:=h x (by simp);obtain⟨h1,I⟩:=eS (a+f x) fun y bS=>h y (by simp[bS]);simp only[List.map_cons,List.foldl_cons,List.length_cons];rw[Int.natCast_succ,Int.mul_add];omega
 intro l h;obtain⟨h1,I⟩:=key l 0 h;unfold iK;omega
end o
namespace o
theorem Vu{m:Model}(h:(scalars m.scalars).2≠0):data m=⟨(scalars m.scalars).2,1,(scalars m.scalars).1,0⟩:=by unfold data;rw[if_pos h]
theorem G7{m:Model}(an:(scalars m.scalars).2=0){i:Nat}(U:i<m.vars.length)(bA:∀j,j<i->jy m j=0)(h:jy m i≠0):data m=⟨jy m i,2,i,0⟩:=by
 unfold data;rw[if_neg (by simpa using an),ji U bA h,if_pos h]
theorem G5{m:Model}(an:(scalars m.scalars).2=0)(aG:∀j,j<m.vars.length->jy m j=0){i:Nat}(U:i<m.aw.length)(bA:∀j,j<i->kk m j=0)(h:kk m i≠0):data m=⟨kk m i,3,i,0⟩:=by
 unfold data;rw[if_neg (by simpa using an),pa aG,if_neg (by simp),ji U bA h,if_pos h]
theorem Vs{m:Model}(an:(scalars m.scalars).2=0)(aG:∀j,j<m.vars.length->jy m j=0)(ah:∀j,j<m.aw.length->kk m j=0):data m=tV:=by
 unfold data;rw[if_neg (by simpa using an),pa aG,if_neg (by simp),pa ah,if_neg (by simp)]
theorem Vt{m:Model}(h:(data m).cA=0):(scalars m.scalars).2=0/\(∀j,j<m.vars.length->jy m j=0)/\(∀j,j<m.aw.length->kk m j=0):=by
 unfold data at h;by_cases h1:(scalars m.scalars).2=0
 .rw[if_neg (by simpa using h1)] at h;by_cases I:(first m.vars.length (jy m)).2=0
  .rw[if_neg (by simpa using I)] at h;by_cases ab:(first m.aw.length (kk m)).2=0
   .exact⟨h1,vu I,vu ab⟩
   .rw[if_pos ab] at h;exact absurd h ab
  .rw[if_pos I] at h;exact absurd h I
 .rw[if_pos h1] at h;exact absurd h h1
theorem G6{m:Model}(h:(data m).cA=0):m.scalars.length<=2/\m.vars.length<=12/\m.aw.length<=4:=by
 obtain⟨h1,I,ab⟩:=Vt h;refine⟨abk h1,?_,?_⟩
 .apply Classical.byContradiction;intro ay
  have:=VX (I 12 (by omega))
  omega
 .apply Classical.byContradiction;intro ay
  have:=afs (ab 4 (by omega))
  omega
theorem Fp{m:Model}{i:Nat}(U:i<m.procs.length)(bA:∀j,j<i->(iA m j).1=0)(h:(iA m i).1≠0):me m=⟨(iA m i).1,4,i,(iA m i).2⟩:=by
 unfold me;rw[ji (e:=fun i=>(iA m i).1) U bA h];simp only;rw[if_pos h];simp
theorem Qb{m:Model}(bA:∀j,j<m.procs.length->(iA m j).1=0):me m=if 12<(pieces m).1\/64<(pieces m).2.2 then ⟨11,4,m.procs.length,0⟩ else tV:=by
 unfold me;rw[pa (e:=fun i=>(iA m i).1) bA,if_neg (by simp)]
theorem Kq{m:Model}(h:(me m).cA=0):(∀j,j<m.procs.length->(iA m j).1=0)/\(pieces m).1<=12/\(pieces m).2.2<=64:=by
 by_cases h1:(first m.procs.length fun i=>(iA m i).1).2=0
 .have bA:=vu h1;rw[Qb bA] at h;refine⟨bA,?_⟩;by_cases I:12<(pieces m).1\/64<(pieces m).2.2
  .rw[if_pos I] at h;cases h
  .omega
 .unfold me at h;rw[if_pos h1] at h;exact absurd h h1
theorem aav{m:Model}{i:Nat}(U:i<m.props.length)(bA:∀j,j<i->nd m j=0)(h:nd m i≠0):pr m=⟨nd m i,5,i,0⟩:=by
 unfold pr;rw[ji U bA h,if_pos h]
theorem Qd{m:Model}(bA:∀j,j<m.props.length->nd m j=0):pr m=tV:=by
 unfold pr;rw[pa bA,if_neg (by simp)]
theorem Kr{m:Model}(h:(pr m).cA=0):∀j,j<m.props.length->nd m j=0:=by
 by_cases h1:(first m.props.length (nd m)).2=0
 .exact vu h1
 .unfold pr at h;rw[if_pos h1] at h;exact absurd h h1
theorem Cv{α:Type}(f:α->ByteArray)(l:C_ α){k:Nat}(h:k<l.length):(l.take (k+1)).map f=(l.take k).map f++[f l[k]]:=by
 rw[List.take_succ_eq_append_getElem h,List.map_append];rfl
end o
namespace o
theorem MF{m:Model}{i:Nat}(U:i<m.procs.length):iA m i=if 6<=i then (11,0)
  else if (hU m.procs[i] (hi m i)).2.2≠0 then ((hU m.procs[i] (hi m i)).2.2,16*(hU m.procs[i] (hi m i)).1+(hU m.procs[i] (hi m i)).2.1)
  else if m.procs[i].name∈iZ m i then (7,0)
  else if (first m.procs[i].vars.length (qF m m.procs[i])).2≠0 then (7,16+(first m.procs[i].vars.length (qF m m.procs[i])).1)
  else (0,0):=by
 unfold iA;rw[List.getElem?_eq_getElem U]
theorem DF{m:Model}{i:Nat}(U:i<m.props.length):nd m i=if 8<=i then 11 else if isName m.props[i].name=false then 6 else if m.props[i].name∈r0 m i then 7
  else if (kind m.props[i].expr (ey m)).2≠0 then (kind m.props[i].expr (ey m)).2 else if (kind m.props[i].expr (ey m)).1≠1 then 9 else 0:=by
 unfold nd;rw[List.getElem?_eq_getElem U]
theorem agD(n:Nat)(e:Nat->Int):0<=(first n e).1/\(first n e).1<=n:=by
 unfold first
 split
 .rename_i i U;rw[List.find?_range_eq_some] at U
  have:=U.2.1
  simp at this;constructor<;>simp<;>omega
 .simp
theorem ZK(s:Scope):∀(l:C_ Var) (i:Nat),0<=(qb s l i).1/\(qb s l i).1<=i+l.length
 | [],i=>by first | (simp[qb];done) | (simp[qb];omega)
 | v :: r,i=>by
  have:=ZK s r (i+1)
  unfold qb;split
  .simp;omega
  .split
   .simp;omega
   .simp only[List.length_cons];omega
theorem anG(p:dz)(s:Scope):0<=(lu p s).1/\(lu p s).1<=p.vars.length:=by
 unfold lu;split
 .exact agD _ _
 .have:=ZK s p.vars 0;omega
theorem Ur(s:Scope):∀(l:C_ Act) (i:Nat) (t:Bool),0<=(kC s l i t).1/\(kC s l i t).1<=2+i+l.length
 | [],i,t=>by first | (simp[kC];done) | (simp[kC];omega)
 | a :: r,i,t=>by
  have:=Ur s r (i+1) (t||hX a)
  unfold kC;split
  .simp;omega
  .split
   .simp;omega
   .simp only[List.length_cons];omega
theorem aeP(c:dI)(b8:Int)(s:Scope):0<=(jg c b8 s).1/\(jg c b8 s).1<=2+c.bY.length:=by
 unfold jg;split
 .simp;omega
 .split
  .simp;omega
  .have:=Ur s c.bY 0 false;omega
theorem Vg(own:Scope)(b8:Int)(all:C_ dI)(B:Nat):∀(l:C_ dI) (i:Nat),(∀c∈l,c.bY.length<=B)->0<=(lC own b8 all l i).1/\(lC own b8 all l i).1<=2+i+l.length/\0<=(lC own b8 all l i).2.1/\(lC own b8 all l i).2.1<=2+B
 | [],i,_=>by first | (simp[lC];done) | (simp[lC];omega)
 | c :: r,i,h=>by
  have h1:=Vg own b8 all B r (i+1) fun x ag=>h x (by simp[ag]);have I:=aeP c b8 own;have ab:=h c (by simp);unfold lC;split
  .simp only[List.length_cons];omega
  .split
   .simp only[List.length_cons];omega
   .simp only[List.length_cons];omega
theorem aas(p:dz)(s:Scope)(B:Nat)(h:∀c∈p.cL,c.bY.length<=B):0<=(hU p s).1/\(hU p s).1<=2+p.cL.length/\0<=(hU p s).2.1/\(hU p s).2.1<=2+B+p.vars.length:=by
 unfold hU;split
 .simp;omega
 .split
  .have:=anG p s
   simp only;omega
  .have:=Vg (inner p s) p.b8 p.cL B p.cL 0 h
   omega
theorem P9{p:dz}{s:Scope}(h:(hU p s).2.2=0):p.vars.length<=4/\p.cL.length<=12/\whole p s=0/\(lu p s).2=0/\(lC (inner p s) p.b8 p.cL p.cL 0).2.2=0:=by
 unfold hU at h;by_cases h1:whole p s=0
 .rw[if_neg (by simpa using h1)] at h;by_cases I:(lu p s).2=0
  .rw[if_neg (by simpa using I)] at h;refine⟨?_,?_,h1,I,h⟩
   .have ab:(vars p.vars s.scalars 4).2=0:=by
     apply Classical.byContradiction;intro ay;unfold lu at I;rw[if_pos ay] at I;exact ay I
    apply Classical.byContradiction;intro ay;have aD:=vu ab 4 (by omega);unfold err at aD;rw[if_pos (by decide)] at aD;cases aD
   .apply Classical.byContradiction;intro ay;unfold whole at h1;split at h1
    .cases h1
    .split at h1
     .cases h1
     .split at h1
      .cases h1
      .rw[if_pos (by omega)] at h1;cases h1
  .rw[if_pos I] at h;exact absurd h I
 .rw[if_pos h1] at h;exact absurd h h1
theorem Bd{m:Model}{i:Nat}(U:i<m.procs.length)(h:(iA m i).1=0):i<6/\(hU m.procs[i] (hi m i)).2.2=0/\¬m.procs[i].name∈iZ m i/\(first m.procs[i].vars.length (qF m m.procs[i])).2=0:=by
 rw[MF U] at h;split at h
 .cases h
 .split at h
  .rename_i h1 I;exact absurd h I
  .split at h
   .cases h
   .split at h
    .cases h
    .rename_i h1 I ab aD;exact⟨by omega,by simpa using I,ab,by simpa using aD⟩
end o
end