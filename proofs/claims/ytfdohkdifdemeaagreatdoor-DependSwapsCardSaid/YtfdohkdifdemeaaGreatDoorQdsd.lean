/- Parts. -/
import Derived.Test.YtfdohkdifdemeaaGreatDoorQdsc
import Derived.Lib.RuneCount
import Derived.Lib.TrimU
import Derived.Laws.StructEq
import Derived.Laws.Cover3
import Derived.Maps.AppendAt
import Derived.Laws.Pointers
set_option linter.all false
set_option maxRecDepth 4000
section
namespace bt
open Go Go.RowKit
structure vx(p:Prop):Prop where out:p
theorem aP{A B:Prop}(k:B)(h:vx B->A:=by
 intro q
 (repeat' first
 | assumption
 | exact Ext.refl _
 | refine Ext.trans ?_ (by assumption)
 | refine K.wrap (by omega) ?_
 | refine K.ti (by assumption) ?_ rfl ?_
 | refine K.q1 (by assumption) ?_ rfl ?_
 | refine K.uU (by assumption) ?_ (by omega) rfl ?_
 | refine K.uV (by assumption) ?_ (by omega) rfl ?_
 | refine K.uT (by assumption) ?_ (by omega) rfl ?_
 | refine K.uL (by omega) ?_
 | refine K.sF (by first | assumption | omega) ?_
 | refine K.tS (by first | assumption | omega) ?_
 | refine K.qB (by assumption) ?_
 | refine K.rL (by assumption) ?_
 | simp -dsimp only[c4,cF,Nat.reduceAdd,Nat.reduceEqDiff,reduceIte,reduceCtorEq,db])
 exact q.out):A:=h ⟨k⟩
theorem dn{F A B:Prop}(f:F)(k:B)(h:F->vx B->A:=by
 intro f q
 (repeat' first
 | assumption
 | exact Ext.refl _
 | refine Ext.trans ?_ (by assumption)
 | refine K.wrap (by omega) ?_
 | refine K.ti (by assumption) ?_ rfl ?_
 | refine K.q1 (by assumption) ?_ rfl ?_
 | refine K.uU (by assumption) ?_ (by omega) rfl ?_
 | refine K.uV (by assumption) ?_ (by omega) rfl ?_
 | refine K.uT (by assumption) ?_ (by omega) rfl ?_
 | refine K.uL (by omega) ?_
 | refine K.sF (by first | assumption | omega) ?_
 | refine K.tS (by first | assumption | omega) ?_
 | refine K.qB (by assumption) ?_
 | refine K.rL (by assumption) ?_
 | simp -dsimp only[c4,cF,Nat.reduceAdd,Nat.reduceEqDiff,reduceIte,reduceCtorEq,db,f])
 exact q.out):A:=h f ⟨k⟩
theorem pN{A B:Prop}(k:B)(h:vx B->A:=by
 intro q
 (repeat' first
 | assumption
 | exact Ext.refl _
 | refine Ext.trans ?_ (by assumption)
 | refine K.wrap (by omega) ?_
 | refine K.ti (by assumption) ?_ rfl ?_
 | refine K.q1 (by assumption) ?_ rfl ?_
 | refine K.uU (by assumption) ?_ (by omega) rfl ?_
 | refine K.uV (by assumption) ?_ (by omega) rfl ?_
 | refine K.uT (by assumption) ?_ (by omega) rfl ?_
 | refine K.uL (by omega) ?_
 | refine K.sF (by first | assumption | omega) ?_
 | refine K.tS (by first | assumption | omega) ?_
 | refine K.qB (by assumption) ?_
 | refine K.rL (by assumption) ?_
 | simp -dsimp only[c4,Nat.reduceAdd,Nat.reduceEqDiff,reduceIte,reduceCtorEq,db])
 exact q.out):A:=h ⟨k⟩
theorem cd{F A B:Prop}(f:F)(k:B)(h:F->vx B->A:=by
 intro f q;simp -dsimp only[c4,cF,Nat.reduceAdd,Nat.reduceEqDiff,reduceIte,reduceCtorEq,db,f];exact q.out):A:=h f ⟨k⟩
def tu:List (Nat×Value)->Fr->Fr
 | [],S=>S
 | p :: r,S=>cm (tu r S) p.1 p.2
theorem vh(S:Fr):tu [] S=S:=eq_of_heq (HEq.refl _)
theorem vg(t:Nat)(v:Value)(r:List (Nat×Value))(S:Fr):tu ((t,v) :: r) S=cm (tu r S) t v:=eq_of_heq (HEq.refl _)
def Has(S:Fr):List (Nat×Value)->Prop
 | []=>True
 | p :: r=>S p.1=p.2/\Has S r
theorem ui(S:Fr):Has S []=True:=propext Iff.rfl
theorem uh(S:Fr)(t:Nat)(v:Value)(r:List (Nat×Value)):Has S ((t,v) :: r)=(S t=v/\Has S r):=propext Iff.rfl
theorem Fo{S:Fr}:∀L,Has S L->tu L S=S
 | [],_=>rfl
 | p :: r,h=>by
  show cm (tu r S) p.1 p.2=S;rw[Fo r h.2];exact jc S _ _ h.1
def tf(S:Fr):List Nat->Fr->Fr
 | [],bh=>bh
 | t :: r,bh=>cm (tf S r bh) t (S t)
theorem uQ(S bh:Fr):tf S [] bh=bh:=eq_of_heq (HEq.refl _)
theorem uP(S bh:Fr)(t:Nat)(r:List Nat):tf S (t :: r) bh=cm (tf S r bh) t (S t):=eq_of_heq (HEq.refl _)
theorem Ea{S bh:Fr}:∀cJ:List Nat,(∀t∈cJ,bh t=S t)->tf S cJ bh=bh
 | [],_=>rfl
 | t :: r,h=>by
  show cm (tf S r bh) t (S t)=bh;rw[Ea r fun u hu=>h u (by simp[hu])];exact jc bh _ _ (h t (by simp))
theorem bz{p:Prop}(h:p:=by first | trivial | rfl | exact⟨rfl,trivial⟩ | (simp -dsimp only[c4,vh,vg,uQ,uP,ui,uh,Nat.reduceAdd,Nat.reduceEqDiff,reduceIte,and_self];done) | (simp -dsimp only[c4,vh,vg,uQ,uP,ui,uh,Nat.reduceAdd,Nat.reduceEqDiff,reduceIte,and_self];exact⟨rfl,trivial⟩)):p:=h
theorem Ir{ds cJ:List Nat}(h:(cJ.all fun t => !ds.contains t)=true):∀t∈cJ,ds.contains t=false:=fun t aO=>by
 have:=List.all_eq_true.1 h t aO
 simpa using this
theorem ahX{p:Nat->Prop}:∀n,p n->∃m,p m/\∀k,p k->m<=k:=fun n=>by
 induction n using Nat.strongRecOn with
 | _ n e1 =>
  intro h;by_cases hm:∃k,k<n/\p k
  .obtain⟨k,hk,aN⟩:=hm;exact e1 k hk aN
  .exact⟨n,h,fun k hk=>Nat.le_of_not_lt fun cv=>hm ⟨k,cv,hk⟩⟩
noncomputable def least(p:Nat->Prop):Nat:=open Classical in if h:∃m,p m/\∀k,p k->m<=k then h.choose else 0
theorem Ws{p:Nat->Prop}(h:∃n,p n):p (least p)/\∀k,p k->least p<=k:=by
 obtain⟨n,aE⟩:=h;have hm:=ahX n aE;unfold least;rw[dif_pos hm];exact hm.choose_spec
section
variable{P:Program}{Q:dW->Fr->World->Prop}{S:Fr}{w:World}
theorem K.dk{β:Type}{b:fa}{t}(i N:Nat)(cJ:List Nat)(M:β->List (Nat×Value))(lb:β)(ic:Nat->β->World->Prop)(LM:S i = .int .i64 0)(br:Has S (M lb))(ak:ic 0 lb w)
  (a6:∀(k:Nat) x bh w',k<=N->ic k x w' ->
   dV P b (hr (fun fx b1=>k<N/\fx i = .int .i64 ((k:Int)+1)/\∃y4,Has fx (M y4)/\ic (k+1) y4 b1) Q ⟨⟩) (tu (M x) (cm (tf S cJ bh) i (.int .i64 k))) w' ⟨⟩)
  (bx:(cJ.all fun t => !b.fz.contains t)=true:=by rfl):xh P b Q S w t:=by
 refine K.zY i N (fun k S w => ∃x,Has S (M x)/\ic k x w) LM ⟨lb,br,ak⟩ ?_;rintro k bh w' cq hk ad ⟨x,C4,p1⟩;have h:=a6 k x bh w' hk p1;rw[Ea cJ fun t aO=>cq t (Ir bx t aO),jc bh i _ ad,Fo _ C4] at h;exact h
theorem K.hl{β:Type}{a b:fa}{t}(cJ:List Nat)(M:β->List (Nat×Value))(N:β->World->Prop)(h1:dV P a (hr (fun fx b1 => ∃x,Has fx (M x)/\N x b1) Q ⟨⟩) S w ⟨⟩)
  (U:∀x bh w',N x w'->dV P b Q (tu (M x) (tf S cJ bh)) w' ⟨⟩)(bx:(cJ.all fun t => !a.fz.contains t)=true:=by rfl):dV P (.seq a b) Q S w t:=by
 refine K.cut _ h1 ?_;rintro bh w' cq ⟨x,br,gp⟩;have h:=U x bh w' gp;rw[Ea cJ fun t aO=>cq t (Ir bx t aO),Fo _ br] at h;exact h
theorem K.w9{β:Type}{b:fa}{t}(cJ:List Nat)(M:β->List (Nat×Value))(lb:β)(ic:β->World->Prop)(jM:β->Nat)(br:Has S (M lb))(ak:ic lb w)
  (a6:∀x bh w',ic x w' ->
   dV P b (hr (fun fx b1 => ∃y4,Has fx (M y4)/\ic y4 b1/\jM y4<jM x) Q ⟨⟩) (tu (M x) (tf S cJ bh)) w' ⟨⟩)
  (bx:(cJ.all fun t => !b.fz.contains t)=true:=by rfl):xh P b Q S w t:=by
 refine K.loop (fun S w => ∃x,Has S (M x)/\ic x w) (fun S w=>least fun n => ∃x,Has S (M x)/\ic x w/\jM x=n) ⟨lb,br,ak⟩ ?_;rintro bh w' cq ⟨x,C4,p1⟩;obtain⟨⟨y,h1,U,ag⟩,aJ⟩:=Ws (p:=fun n => ∃x,Has bh (M x)/\ic x w'/\jM x=n) ⟨jM x,x,C4,p1,rfl⟩;have h:=a6 y bh w' U;rw[Ea cJ fun t aO=>cq t (Ir bx t aO),Fo _ h1] at h;unfold dV hr at *;refine oM b _ _ bh w' (fun e fx b1 _ h=>?_) h
 match e,h with
 | .normal,⟨z,cX,c0,gD⟩ =>
  refine⟨⟨z,cX,c0⟩,?_⟩;have bg:=(Ws (p:=fun n => ∃x,Has fx (M x)/\ic x b1/\jM x=n) ⟨jM z,z,cX,c0,rfl⟩).2 (jM z) ⟨z,cX,c0,rfl⟩;show least _<least _;rw[<-ag];omega
 | .exit _,h=>exact h
 | .ret,h=>exact h
 | .fV _,h=>exact h
end
end bt
end
section
namespace o
open Go
def letter(n:Int):Bool:=decide (97<=n/\n<=122\/65<=n/\n<=90)
def digit(n:Int):Bool:=decide (48<=n/\n<=57)
def part(n:Int):Bool:=letter n||digit n||decide (n=95)
def rJ(s:ByteArray)(i:Nat):Nat:=(s.get! i).toNat
def run(p:Int->Bool)(s:ByteArray):Nat:=(s.data.toList.takeWhile fun b=>p b.toNat).length
theorem YA{α:Type}(p:α->Bool):∀(l:List α) (n:Nat) (h:n<l.length),(∀j (aR:j<n),p (l[j]'(by omega))=true)->p l[n]=false->(l.takeWhile p).length=n
 | [],n,h,_,_=>by simp at h
 | x :: l,0,h,_,U=>by simp at U;simp[U]
 | x :: l,n+1,h,h1,U=>by
  have ar:p x=true:=h1 0 (by omega);rw[List.takeWhile_cons,if_pos ar,List.length_cons,YA p l n (by simpa using h) (fun j aR=>h1 (j+1) (by omega)) (by simpa using U)]
theorem Yz{α:Type}(p:α->Bool):∀(l:List α) (_:∀j (aR:j<l.length),p l[j]=true),(l.takeWhile p).length=l.length
 | [],_=>rfl
 | x :: l,h=>by
  have ar:p x=true:=h 0 (by simp);rw[List.takeWhile_cons,if_pos ar,List.length_cons,Yz p l (fun j aR=>h (j+1) (by simpa using aR)),List.length_cons]
theorem X6(p:Int->Bool)(s:ByteArray)(n:Nat)(h:n<s.size)(h1:∀j (aR:j<n),p (s[j]'(by omega)).toNat=true)(U:p s[n].toNat=false):run p s=n :=
 YA (fun b:UInt8=>p b.toNat) s.data.toList n (by simpa using h) (fun j aR=>h1 j aR) U
theorem XZ(p:Int->Bool)(s:ByteArray)(h:∀j (aR:j<s.size),p s[j].toNat=true):run p s=s.size:=by
 have:=Yz (fun b:UInt8=>p b.toNat) s.data.toList (fun j aR=>h j (by simpa using aR))
 rw[run,this];simp
theorem abQ{p:Int->Bool}(aN:∀r:Int,128<=r->p r=false)(s:ByteArray)(pos:Nat)(h:pos<s.size) :
  p (Utf8.decode s pos).1=p s[pos].toNat/\(p s[pos].toNat=true->(Utf8.decode s pos).2=1):=by
 by_cases bj:s[pos].toNat<128
 .rw[decode_ascii s pos h bj];exact⟨rfl,fun _=>rfl⟩
 .have h1:=decode_high s pos h (by omega);rw[aN _ (by omega),aN _ (by omega)];exact⟨rfl,fun h=>by simp at h⟩
theorem ahF(r:Int)(h:128<=r):letter r=false:=by simp[letter];omega
theorem abW(r:Int)(h:128<=r):digit r=false:=by simp[digit];omega
theorem aiX(r:Int)(h:128<=r):part r=false:=by simp[part,ahF r h,abW r h];omega
instance aoB:LawfulBEq ByteArray where
 eq_of_beq {a b} h:=by rw[bt.Cc] at h;exact of_decide_eq_true h
 rfl {a}:=by rw[bt.Cc];exact decide_eq_true rfl
def qe:List ByteArray:=[⟨#[115,101,108,102]⟩,⟨#[110,111,110,101]⟩,⟨#[108,101,110]⟩,⟨#[97,116]⟩]
def isName(s:ByteArray):Bool:=decide (s.size≠0)&&decide (s.size<=16)&&letter (rJ s 0)&&decide (run part s=s.size) && !decide (s∈qe)
theorem akl(p:Int->Bool)(s:ByteArray):run p s<=s.size:=by
 have:=(List.takeWhile_sublist (fun b:UInt8=>p b.toNat) (l:=s.data.toList)).length_le
 simpa[run] using this
theorem get_eq(s:ByteArray)(i:Nat)(h:i<s.size):s.get! i=s[i]:=by
 obtain⟨d⟩:=s;show d[i]! = d[i];exact getElem!_pos d i h
theorem get?_eq(s:ByteArray)(i:Nat)(h:i<s.size):s[i]? = some (s.get! i):=by rw[get_eq s i h];exact getElem?_pos s i h
structure Scalar where
 name:ByteArray
 size:Int
structure Var where
 name:ByteArray
 scalar:Int
 over:Int
 bf:Int
 ad:Int
 init:Int
structure dr where
 name:ByteArray
 scalar:Int
 cap:Int
 bf:Int
 ad:Int
 WB:Bool
def size(k:Int)(s:List Scalar):Int :=
 match s[(k - 1).toNat]? with
 | some x=>if 1<=k/\1<=x.size/\x.size<=4 then x.size else 0
 | none=>0
def narrow(bf ad:Int):Bool:=decide (-1048576<=bf/\bf<=ad/\ad<=1048576/\ad - bf<256)
def there(k:Int)(s:List Scalar):Bool:=decide (k=0\/size k s≠0)
def err(fs:Int)(fH:Nat->ByteArray)(mo:Nat->Int)(i:Nat):Int :=
 if fs<=i then 11 else if isName (fH i)=false then 6 else if ∃j,j<i/\fH j=fH i then 7 else mo i
def first(n:Nat)(e:Nat->Int):Int×Int:=match (List.range n).find? (fun i=>decide (e i≠0)) with | some i=>((i:Int),e i) | none=>(0,0)
theorem iF{n:Nat}{e:Nat->Int}{i:Nat}(ad:i<n)(h1:∀j,j<i->e j=0)(U:e i≠0):first n e=((i:Int),e i):=by
 have:(List.range n).find? (fun i=>decide (e i≠0))=some i:=by
  rw[List.find?_range_eq_some];simp only[decide_eq_true_eq];exact⟨U,by simpa using ad,fun j aR=>by simp[h1 j aR]⟩
 rw[first,this]
theorem ot{n:Nat}{e:Nat->Int}(h:∀j,j<n->e j=0):first n e=(0,0):=by
 have:(List.range n).find? (fun i=>decide (e i≠0))=none:=by
  rw[List.find?_range_eq_none];intro j aR;simp[h j aR]
 rw[first,this]
theorem Tf{n:Nat}{e e':Nat->Int}(h:∀j,j<n->e j=e' j):first n e=first n e':=by
 by_cases ar:∃i,i<n/\e i≠0/\∀j,j<i->e j=0
 .obtain⟨i,ad,h1,U⟩:=ar;rw[iF ad U h1,iF ad (fun j aR=>by rw[<-h j (by omega)];exact U j aR) (by rw[<-h i ad];exact h1),h i ad]
 .have bN:∀j,j<n->e j=0:=by
   intro j
   induction j using Nat.strongRecOn with
   | _ j e1 =>
    intro aR;by_cases ak:e j=0
    .exact ak
    .exact absurd ⟨j,aR,ak,fun k hk=>e1 k hk (by omega)⟩ ar
  rw[ot bN,ot fun j aR=>by rw[<-h j aR];exact bN j aR]
def nameAt{α:Type}(f:α->ByteArray)(l:List α)(i:Nat):ByteArray:=(l[i]?.map f).getD ⟨#[]⟩
def tr(l:List Scalar)(i:Nat):Int:=match l[i]? with | some x=>if 1<=x.size/\x.size<=4 then 0 else 10 | none=>0
def scalars(l:List Scalar):Int×Int:=first l.length (err 2 (nameAt (·.name) l) (tr l))
def bounds(v:Var)(s:List Scalar):Int×Int:=if v.scalar=0 then (v.bf,v.ad) else (0,size v.scalar s)
def cells(v:Var)(s:List Scalar):Int:=if v.over=0 then 1 else size v.over s
def oL(l:List Var)(s:List Scalar)(i:Nat):Int :=
 match l[i]? with
 | some v=>if there v.scalar s=false\/there v.over s=false then 8
  else if (v.scalar=0/\narrow v.bf v.ad=false)\/v.init<(bounds v s).1\/v.init > (bounds v s).2 then 10 else 0
 | none=>0
def vars(l:List Var)(s:List Scalar)(fs:Int):Int×Int:=first l.length (err (max fs 0) (nameAt (·.name) l) (oL l s))
def oo(l:List dr)(s:List Scalar)(i:Nat):Int :=
 match l[i]? with
 | some c=>if there c.scalar s=false then 8
  else if c.cap<1\/c.cap > 4\/(c.scalar=0/\narrow c.bf c.ad=false) then 10 else 0
 | none=>0
def aL(l:List dr)(s:List Scalar):Int×Int:=first l.length (err 4 (nameAt (·.name) l) (oo l s))
end o
end
section
namespace o
open Go Go.RowKit bt
def Scalar.enc(x:Scalar):List Value:=[.string x.name,.int .i64 x.size]
def Var.enc(x:Var):List Value:=[.string x.name,.int .i64 x.scalar,.int .i64 x.over,.int .i64 x.bf,.int .i64 x.ad,.int .i64 x.init]
def dr.enc(x:dr):List Value:=[.string x.name,.int .i64 x.scalar,.int .i64 x.cap,.int .i64 x.bf,.int .i64 x.ad,.bool x.WB]
def hR(s:ByteArray):Prop:=s.size<=9223372036854775807
instance aoP(s:ByteArray):Decidable (hR s):=Nat.decLe _ _
structure jd(w:World)(a:Addr)(x:Scalar):Prop where
 cells:eS w a x.enc
 ok:hR x.name
structure pL(w:World)(a:Addr)(x:Var):Prop where
 cells:eS w a x.enc
 ok:hR x.name
structure pK(w:World)(a:Addr)(x:dr):Prop where
 cells:eS w a x.enc
 ok:hR x.name
theorem jd.ext(w w':World)(a:Addr)(x:Scalar)(he:Ext w w')(h:jd w a x):jd w' a x:=⟨h.cells.ext he,h.ok⟩
theorem pL.ext(w w':World)(a:Addr)(x:Var)(he:Ext w w')(h:pL w a x):pL w' a x:=⟨h.cells.ext he,h.ok⟩
theorem pK.ext(w w':World)(a:Addr)(x:dr)(he:Ext w w')(h:pK w a x):pK w' a x:=⟨h.cells.ext he,h.ok⟩
abbrev hI(w:World)(v:Value)(l:List Scalar):Prop:=bE 2 jd w v l
abbrev hi(w:World)(v:Value)(l:List Var):Prop:=bE 6 pL w v l
abbrev mK(w:World)(v:Value)(l:List dr):Prop:=bE 6 pK w v l
theorem hi.aX{w:World}{b n:Nat}{e:TypeId}{f:Nat×Nat}{xs:List Var}(aC:w.heap[b]? = some (.cells (xs.flatMap Var.enc).toArray e f))(aE:n=xs.length)(hm:xs.length<=maxLen)(dq:∀x∈xs,hR x.name) :
  hi w (.slice (some ⟨b,0,none⟩) n n) xs:=bE.aX (enc:=Var.enc) (fun _=>rfl) aC aE hm fun _ x ar aw=>⟨aw,dq x ar⟩
structure Node where
 op:Int
 n:Int
structure Act where
 kind:Int
 to:Int
 loc:Int
 index:List Node
 value:List Node
structure dI where
 name:ByteArray
 from_:Int
 to:Int
 guard:List Node
 b6:List Act
 fair:Bool
structure dy where
 name:ByteArray
 over:Int
 cw:Int
 vars:List Var
 cH:List dI
structure kQ where
 name:ByteArray
 expr:List Node
structure Model where
 scalars:List Scalar
 vars:List Var
 aL:List dr
 procs:List dy
 props:List kQ
structure c7 where
 proc:Int
 elem:Int
deriving DecidableEq
structure Ref where
 inst:Int
 cmd:Int
deriving DecidableEq
def c7.enc(x:c7):List Value:=[.int .i64 x.proc,.int .i64 x.elem]
def Ref.enc(x:Ref):List Value:=[.int .i64 x.inst,.int .i64 x.cmd]
def Node.enc(x:Node):List Value:=[.int .i64 x.op,.int .i64 x.n]
def eG(n:Int):Prop := -9223372036854775808<=n/\n<=9223372036854775807
structure Node.ok(x:Node):Prop where
 op:eG x.op
 n:eG x.n
structure xu(w:World)(a:Addr)(x:Node):Prop where
 cells:eS w a x.enc
 ok:x.ok
theorem xu.ext(w w':World)(a:Addr)(x:Node)(he:Ext w w')(h:xu w a x):xu w' a x:=⟨h.cells.ext he,h.ok⟩
abbrev gd(w:World)(v:Value)(l:List Node):Prop:=bE 2 xu w v l
theorem gd.ext{w w':World}{v:Value}{l:List Node}(he:Ext w w')(h:gd w v l):gd w' v l:=bE.ext xu.ext he h
def Act.enc(x:Act)(cx cE:Value):List Value:=[.int .i64 x.kind,.int .i64 x.to,.int .i64 x.loc,cx,cE]
def xp(w:World)(a:Addr)(x:Act):Prop := ∃cx cE,eS w a (x.enc cx cE)/\gd w cx x.index/\gd w cE x.value
theorem xp.ext(w w':World)(a:Addr)(x:Act)(he:Ext w w')(h:xp w a x):xp w' a x:=let ⟨cx,cE,h1,U,ag⟩:=h; ⟨cx,cE,h1.ext he,U.ext he,ag.ext he⟩
abbrev nz(w:World)(v:Value)(l:List Act):Prop:=bE 5 xp w v l
theorem nz.ext{w w':World}{v:Value}{l:List Act}(he:Ext w w')(h:nz w v l):nz w' v l:=bE.ext xp.ext he h
def dI.enc(x:dI)(fK ed:Value):List Value:=[.string x.name,.int .i64 x.from_,.int .i64 x.to,fK,ed,.bool x.fair]
def xq(w:World)(a:Addr)(x:dI):Prop:=hR x.name/\∃fK ed,eS w a (x.enc fK ed)/\gd w fK x.guard/\nz w ed x.b6
theorem xq.ext(w w':World)(a:Addr)(x:dI)(he:Ext w w')(h:xq w a x):xq w' a x:=let ⟨ak,cx,cE,h1,U,ag⟩:=h; ⟨ak,cx,cE,h1.ext he,U.ext he,ag.ext he⟩
abbrev oP(w:World)(v:Value)(l:List dI):Prop:=bE 6 xq w v l
theorem oP.ext{w w':World}{v:Value}{l:List dI}(he:Ext w w')(h:oP w v l):oP w' v l:=bE.ext xq.ext he h
theorem hI.ext{w w':World}{v:Value}{l:List Scalar}(he:Ext w w')(h:hI w v l):hI w' v l:=bE.ext jd.ext he h
theorem hi.ext{w w':World}{v:Value}{l:List Var}(he:Ext w w')(h:hi w v l):hi w' v l:=bE.ext pL.ext he h
theorem mK.ext{w w':World}{v:Value}{l:List dr}(he:Ext w w')(h:mK w v l):mK w' v l:=bE.ext pK.ext he h
def dy.enc(x:dy)(cE dU:Value):List Value:=[.string x.name,.int .i64 x.over,.int .i64 x.cw,cE,dU]
def zm(w:World)(a:Addr)(x:dy):Prop:=hR x.name/\∃cE dU,eS w a (x.enc cE dU)/\hi w cE x.vars/\oP w dU x.cH
theorem zm.ext(w w':World)(a:Addr)(x:dy)(he:Ext w w')(h:zm w a x):zm w' a x:=let ⟨ak,cx,cE,h1,U,ag⟩:=h; ⟨ak,cx,cE,h1.ext he,U.ext he,ag.ext he⟩
abbrev pJ(w:World)(v:Value)(l:List dy):Prop:=bE 5 zm w v l
theorem pJ.ext{w w':World}{v:Value}{l:List dy}(he:Ext w w')(h:pJ w v l):pJ w' v l:=bE.ext zm.ext he h
def xe(w:World)(cs:List Value)(c:dI):Prop:=hR c.name/\∃fK ed,cs=c.enc fK ed/\gd w fK c.guard/\nz w ed c.b6
theorem xe.ext{w w':World}{cs:List Value}{c:dI}(he:Ext w w')(h:xe w cs c):xe w' cs c:=let ⟨ak,cx,cE,h1,U,ag⟩:=h; ⟨ak,cx,cE,h1,U.ext he,ag.ext he⟩
def vC(w:World)(cs:List Value)(p:dy):Prop:=hR p.name/\∃cE dU,cs=p.enc cE dU/\hi w cE p.vars/\oP w dU p.cH
theorem vC.ext{w w':World}{cs:List Value}{p:dy}(he:Ext w w')(h:vC w cs p):vC w' cs p:=let ⟨ak,cx,cE,h1,U,ag⟩:=h; ⟨ak,cx,cE,h1,U.ext he,ag.ext he⟩
def kQ.enc(x:kQ)(hD:Value):List Value:=[.string x.name,hD]
def zn(w:World)(a:Addr)(x:kQ):Prop:=hR x.name/\∃hD,eS w a (x.enc hD)/\gd w hD x.expr
theorem zn.ext(w w':World)(a:Addr)(x:kQ)(he:Ext w w')(h:zn w a x):zn w' a x:=let ⟨ak,cx,h1,U⟩:=h; ⟨ak,cx,h1.ext he,U.ext he⟩
abbrev zl(w:World)(v:Value)(l:List kQ):Prop:=bE 2 zn w v l
theorem zl.ext{w w':World}{v:Value}{l:List kQ}(he:Ext w w')(h:zl w v l):zl w' v l:=bE.ext zn.ext he h
structure dY(w:World)(cs:List Value)(m:Model):Prop where
 ex:∃v0 v1 v2 v3 v4,cs=[v0,v1,v2,v3,v4]/\hI w v0 m.scalars/\hi w v1 m.vars/\mK w v2 m.aL/\pJ w v3 m.procs/\zl w v4 m.props
theorem dY.ext{w w':World}{cs:List Value}{m:Model}(he:Ext w w')(h:dY w cs m):dY w' cs m :=
 let ⟨v0,v1,v2,v3,v4,e,ak,h1,U,ag,aJ⟩:=h.ex
 ⟨v0,v1,v2,v3,v4,e,ak.ext he,h1.ext he,U.ext he,ag.ext he,aJ.ext he⟩
instance aoy:nB xu Node.enc:=⟨fun _ _ _ h=>h.cells⟩
instance aoz:nB jd Scalar.enc:=⟨fun _ _ _ h=>h.cells⟩
instance aoA:nB pL Var.enc:=⟨fun _ _ _ h=>h.cells⟩
instance aou:nB pK dr.enc:=⟨fun _ _ _ h=>h.cells⟩
end o
end
section
namespace bt
open Go Go.RowKit
section
variable{P:Program}{aI:Value->Prop}{w w0:World}
theorem K.MU{a:Addr}{cs:List Value}{j:Nat}{v:Value}{t}(h:eS w0 a cs)(he:Ext w0 w)(aR:cs[j]? = some v)(hk:aI v):qp (.pointer (some (a.add j))) w aI t:=K.ld (he.cell (h j v aR)) hk
theorem K.MT{a:Addr}{cs:List Value}{n:Nat}{t}(h:eS w0 a cs)(he:Ext w0 w)(aE:cs.length=n)(hk:aI (.agg cs.toArray)):ss n (.pointer (some a)) w aI t:=K.j3 (h.ext he) aE hk
end
theorem aa{A B:Prop}(k:B)(h:vx B->A:=by
 intro q
 (repeat' first
 | assumption
 | exact Ext.refl _
 | refine Ext.trans ?_ (by assumption)
 | simp -dsimp only[c4,cF,Nat.reduceAdd,Nat.reduceEqDiff,reduceIte,reduceCtorEq,db,vh,vg,uQ,uP,ui,uh,List.cons_append,List.nil_append]
 | refine K.wrap (by omega) ?_
 | refine K.ti (by assumption) ?_ rfl ?_
 | refine K.q1 (by assumption) ?_ rfl ?_
 | refine K.uL (by omega) ?_
 | refine K.sF (by first | assumption | omega) ?_
 | refine K.tS (by first | assumption | omega) ?_
 | refine K.qB (by assumption) ?_
 | refine K.rL (by assumption) ?_
 | refine K.uU (by assumption) ?_ (by omega) rfl ?_
 | refine K.uV (by assumption) ?_ (by omega) rfl ?_
 | refine K.uT (by assumption) ?_ (by omega) rfl ?_
 | refine K.MU (by assumption) ?_ rfl ?_
 | refine K.MT (by assumption) ?_ rfl ?_
 | refine K.gV (by assumption) ?_ rfl ?_
 | refine K.tm (fun _=>by (simp -dsimp only[c4,Nat.reduceAdd,Nat.reduceEqDiff,reduceIte,reduceCtorEq,db]);rfl) rfl rfl (by first | assumption | (simp[Value.oneCell',o.c7.enc,o.Ref.enc,o.Node.enc,o.Scalar.enc,o.Var.enc,o.dr.enc,o.Act.enc,o.dI.enc,o.dy.enc,o.kQ.enc];done)) ?_
 | refine K.new ?_
 | refine K.jJ (by assumption) rfl rfl (by first | assumption | (simp[Value.oneCell',o.c7.enc,o.Ref.enc,o.Node.enc,o.Scalar.enc,o.Var.enc,o.dr.enc,o.Act.enc,o.dI.enc,o.dy.enc,o.kQ.enc];done)) ?_
 | refine K.st1 (by assumption) (Nat.le_of_ble_eq_true rfl) rfl ?_
 | refine K.tv (by assumption) (Nat.le_of_ble_eq_true rfl) rfl ?_
 | refine K.lv (by (simp only[eP,lay,o7,fu,cu,Value.cells,Nat.reduceAdd,Nat.reduceEqDiff,reduceIte,List.range,List.range.loop,List.map_cons,List.map_nil]);rfl) ?_
 | refine K.cW (by (simp only[eP,lay,o7,fu,cu,Value.cells,Nat.reduceAdd,Nat.reduceEqDiff,reduceIte]);rfl) ?_)
 exact q.out):A:=h ⟨k⟩
theorem ee{A B:Prop}(k:B)(h:vx B->A:=by
 intro q
 (repeat' first
 | assumption
 | exact Ext.refl _
 | refine Ext.trans ?_ (by assumption)
 | simp -dsimp only[c4,Nat.reduceAdd,Nat.reduceEqDiff,reduceIte,reduceCtorEq,db,vh,vg,uQ,uP,ui,uh,List.cons_append,List.nil_append]
 | refine K.wrap (by omega) ?_
 | refine K.ti (by assumption) ?_ rfl ?_
 | refine K.q1 (by assumption) ?_ rfl ?_
 | refine K.uL (by omega) ?_
 | refine K.sF (by first | assumption | omega) ?_
 | refine K.tS (by first | assumption | omega) ?_
 | refine K.qB (by assumption) ?_
 | refine K.rL (by assumption) ?_
 | refine K.uU (by assumption) ?_ (by omega) rfl ?_
 | refine K.uV (by assumption) ?_ (by omega) rfl ?_
 | refine K.uT (by assumption) ?_ (by omega) rfl ?_
 | refine K.MU (by assumption) ?_ rfl ?_
 | refine K.MT (by assumption) ?_ rfl ?_
 | refine K.gV (by assumption) ?_ rfl ?_
 | refine K.tm (fun _=>by (simp -dsimp only[c4,Nat.reduceAdd,Nat.reduceEqDiff,reduceIte,reduceCtorEq,db]);rfl) rfl rfl (by first | assumption | (simp[Value.oneCell',o.c7.enc,o.Ref.enc,o.Node.enc,o.Scalar.enc,o.Var.enc,o.dr.enc,o.Act.enc,o.dI.enc,o.dy.enc,o.kQ.enc];done)) ?_
 | refine K.new ?_
 | refine K.jJ (by assumption) rfl rfl (by first | assumption | (simp[Value.oneCell',o.c7.enc,o.Ref.enc,o.Node.enc,o.Scalar.enc,o.Var.enc,o.dr.enc,o.Act.enc,o.dI.enc,o.dy.enc,o.kQ.enc];done)) ?_
 | refine K.st1 (by assumption) (Nat.le_of_ble_eq_true rfl) rfl ?_
 | refine K.tv (by assumption) (Nat.le_of_ble_eq_true rfl) rfl ?_
 | refine K.lv (by (simp only[eP,lay,o7,fu,cu,Value.cells,Nat.reduceAdd,Nat.reduceEqDiff,reduceIte,List.range,List.range.loop,List.map_cons,List.map_nil]);rfl) ?_
 | refine K.cW (by (simp only[eP,lay,o7,fu,cu,Value.cells,Nat.reduceAdd,Nat.reduceEqDiff,reduceIte]);rfl) ?_)
 exact q.out):A:=h ⟨k⟩
end bt
end
section
namespace bt
open Go Go.RowKit
def gJ(A:Nat->Prop)(p:World->Prop)(w:World):Prop := ∀w',Mod A w w'->p w'
theorem gJ.here{A:Nat->Prop}{p:World->Prop}{w:World}(h:gJ A p w):p w:=h w (Mod.refl A w)
theorem Mod.comp{A A' B:Nat->Prop}{a b c:World}(h:Mod A a b)(k:Mod A' b c)(h1:∀i,i<a.heap.size->A i->B i)(U:∀i,i<a.heap.size->A' i->B i):Mod B a c :=
 ⟨k.os.trans h.os,k.tape.trans h.tape,k.output.trans h.output,Nat.le_trans h.size k.size,fun i ad aE=>(k.block i (Nat.lt_of_lt_of_le ad h.size) fun e=>aE (U i ad e)).trans (h.block i ad fun e=>aE (h1 i ad e))⟩
theorem gJ.move{A A' B:Nat->Prop}{p:World->Prop}{w w':World}(h:gJ B p w)(m:Mod A w w')(h1:∀i,i<w.heap.size->A i->B i)(U:∀i,i<w.heap.size->A' i->B i):gJ A' p w' :=
 fun b1 k=>h b1 (m.comp k h1 U)
theorem gJ.mono{A B:Nat->Prop}{p:World->Prop}{w:World}(h:gJ B p w)(U:∀i,i<w.heap.size->A i->B i):gJ A p w:=h.move (Mod.refl A w) U U
theorem gJ.ext{B:Nat->Prop}{p:World->Prop}{w w':World}(h:gJ B p w)(e:Ext w w')(ji:∀i,w.heap.size<=i->¬B i):gJ B p w' :=
 h.move (A:=fun _=>False) e.mod (fun _ _ h=>h.elim) (fun _ _ h=>h)
theorem gJ.imp{A:Nat->Prop}{p q:World->Prop}{w:World}(h:gJ A p w)(L7:∀w,p w->q w):gJ A q w:=fun w' m=>L7 w' (h w' m)
theorem gJ.and{A:Nat->Prop}{p q:World->Prop}{w:World}(h:gJ A p w)(k:gJ A q w):gJ A (fun w=>p w/\q w) w:=fun w' m=>⟨h w' m,k w' m⟩
theorem gJ.of{A:Nat->Prop}{p:World->Prop}{w:World}(h:∀w',p w'):gJ A p w:=fun w' _=>h w'
abbrev eF(w:World)(p:World->Prop)(w':World):Prop:=gJ (fun k=>k<w.heap.size) p w'
theorem eF.ext{w av aU:World}{p:World->Prop}(h:eF w p av)(he:Ext av aU)(ak:w.heap.size<=av.heap.size):eF w p aU :=
 gJ.ext h he fun i ad hk=>by omega
theorem eF.low{w w0 av:World}{p:World->Prop}(h:eF w p av)(ak:w0.heap.size<=w.heap.size):eF w0 p av:=h.mono fun i _ ad=>by omega
theorem eF.wr{w av aU:World}{p:World->Prop}{b:Nat}(h:eF w p av)(hw:dA b av aU)(aC:b<w.heap.size):eF w p aU :=
 gJ.move h (A:=fun k=>k=b) (hw.mod rfl) (fun i _ e=>by omega) (fun i _ e=>e)
theorem eF.and{w av:World}{p q:World->Prop}(h:eF w p av)(k:eF w q av):eF w (fun w=>p w/\q w) av:=gJ.and h k
theorem eF.imp{w av:World}{p q:World->Prop}(h:eF w p av)(L7:∀w,p w->q w):eF w q av:=gJ.imp h L7
class Rel{α:Type}(R:World->Addr->α->Prop)(C:outParam (World->List Value->α->Prop))(sz:outParam Nat):Prop where
 out:∀{w a x},R w a x->∃cs,eS w a cs/\C w cs x
 oB:∀{w a cs x},eS w a cs->C w cs x->R w a x
 len:∀{w cs x},C w cs x->cs.length=sz
 one:∀{w cs x},C w cs x->∀u∈cs,u.oneCell'=true
 ext:∀{w w' cs x},Ext w w'->C w cs x->C w' cs x
abbrev oQ(sz:Nat):={cs:List Value // cs.length=sz/\∀u∈cs,u.oneCell'=true}
def sJ{sz:Nat}(c:oQ sz):List Value:=c.1
theorem vY{sz:Nat}(c:oQ sz):(sJ c).length=sz:=c.2.1
theorem Kw{sz:Nat}(c:oQ sz):∀u∈sJ c,u.oneCell'=true:=c.2.2
abbrev vA(e:TypeId)(sz base:Nat)(w:World)(v:Value)(eY:List (oQ sz)):Prop:=bs sJ e sz base w v eY
theorem bE.cells{α:Type}{R:World->Addr->α->Prop}{C:World->List Value->α->Prop}{sz:Nat}[Rel R C sz]{w:World}{v:Value}{xs:List α}(h:bE sz R w v xs) :
  ∃eY:List (oQ sz),eY.length=xs.length/\bE sz (Flat sJ) w v eY/\∀i (h1:i<eY.length) (U:i<xs.length),C w eY[i].1 xs[i]:=by
 obtain⟨bm,cap,rfl,h1,U,ag,aJ⟩:=h.ex;obtain⟨eY,aS,aw⟩:=MW xs.length (fun i (c:oQ sz)=>(∀a,bm=some a->eS w (a.add (i*sz)) c.1)/\∀(h:i<xs.length),C w c.1 xs[i]) fun i ad=>by
  obtain⟨a,rfl⟩:=Option.isSome_iff_exists.1 (ag (by intro e;subst e;simp at ad));obtain⟨cs,c1,c2⟩:=Rel.out (aJ a rfl i ad);exact⟨⟨cs,Rel.len (R:=R) c2,Rel.one (R:=R) c2⟩,fun c5 e=>by injection e with e;subst e;exact c1,fun _=>c2⟩
 refine⟨eY,aS,⟨bm,cap,by rw[aS],by omega,U,fun aE=>ag (by intro e;subst e;simp at aS;exact aE aS),fun a bj i ad=>(aw i ad).1 a bj⟩,fun i h1 U=>(aw i h1).2 U⟩
theorem bE.Nb{α:Type}{R:World->Addr->α->Prop}{C:World->List Value->α->Prop}{sz:Nat}[Rel R C sz]{w:World}{v:Value}{xs:List α}{eY:List (oQ sz)}(aS:eY.length=xs.length)(h:bE sz (Flat sJ) w v eY)
  (aw:∀i (h1:i<eY.length) (U:i<xs.length),C w eY[i].1 xs[i]):bE sz R w v xs:=by
 obtain⟨bm,cap,rfl,h1,U,ag,aJ⟩:=h.ex;refine⟨bm,cap,by rw[aS],by omega,U,fun aE=>ag (by intro e;subst e;simp at aS;exact aE (List.eq_nil_of_length_eq_zero aS.symm)),fun a bj i ad=>Rel.oB (aJ a bj i (by omega)) (aw i (by omega) ad)⟩
theorem K.vH{P:Program}{c9:Value->World->Prop}{α:Type}{enc:α->List Value}{e:TypeId}{sz base:Nat}{w:World}{xs:List α}{ty:TypeId}{b:Nat}{s:Value}{a:Addr}{m c:Nat}{ys:List α}{t}(ay:bs enc e sz base w s xs)(dm:∀x,(enc x).length=sz)(aw:eS w a (ys.flatMap enc))(hm:m=ys.length)
  (h1:∀y,∀u∈enc y,u.oneCell'=true)(aC:(xs.length+ys.length)*b<=140737488355328)(ki:xs.length+ys.length<=maxLen)(jx:base<=w.heap.size)
  (hk:∀cf w',bs enc e sz base w' cf (xs++ys)->w.grownBy w' s.ownBlock->(cf.ownBlock=s.ownBlock\/cf.ownBlock=some w.heap.size)->c9 cf w'):lf P ty e sz b s (.slice (some a) m c) w c9 t:=by
 subst hm;refine K.app fun⟨aO,i,z,ad,bN,Ay,Ad,yr,HV⟩=>?_;obtain⟨cf,w',a6,U,ag,_,bg⟩:=run_append_own_at (P:=P) w base ty ty e i z sz b aO ad bN Ay Ad yr HV s _ _ ay a _ c _ (xX dm ys) aw (fun u hu=>by obtain⟨y,_,b2⟩:=List.mem_flatMap.1 hu;exact h1 y u b2) ki aC jx;refine⟨ty,cf,w',a6,hk cf w' ?_ ag bg⟩;unfold bs;rw[List.length_append,List.flatMap_append];exact U
def xn(v:Value)(base k:Nat):Prop:=v.ownBlock=some k\/k<base
structure ft{α:Type}(C:World->List Value->α->Prop)(e:TypeId)(sz base:Nat)(w:World)(v:Value)(xs:List α):Prop where
 ex:∃eY:List (oQ sz),eY.length=xs.length/\vA e sz base w v eY/\∀i (h1:i<eY.length) (U:i<xs.length),gJ (xn v base) (fun w=>C w eY[i].1 xs[i]) w
section
variable{α:Type}{C:World->List Value->α->Prop}{e:TypeId}{sz base:Nat}{w w':World}{v:Value}{xs:List α}
theorem ft.nil(C:World->List Value->α->Prop)(e:TypeId)(sz base:Nat)(w:World):ft C e sz base w (.slice none 0 0) []:=⟨[],rfl,bs.nil _ _ _ _ _,fun i h=>by cases h⟩
theorem ft.form(h:ft C e sz base w v xs):∃bm cap,v = .slice bm xs.length cap/\xs.length<=cap/\cap<=maxLen:=by
 obtain⟨eY,aS,ba,_⟩:=h.ex;obtain⟨bm,cap,h1,U,ag⟩:=ba.form;exact⟨bm,cap,by rw[h1,aS],by omega,ag⟩
theorem ft.lt(h:ft C e sz base w v xs):∀k,v.ownBlock=some k->base<=k/\k<w.heap.size:=by
 obtain⟨eY,aS,ba,_⟩:=h.ex;exact ba.lt
theorem bs.mod{enc:α->List Value}{A:Nat->Prop}(h:bs enc e sz base w v xs)(m:Mod A w w')(eJ:∀k,v.ownBlock=some k->¬A k):bs enc e sz base w' v xs:=by
 refine⟨h.1,?_⟩;rcases h.2 with aE | ⟨g,cap,cur,rfl,aC,a1,rest⟩
 .exact .inl aE
 .exact .inr ⟨g,cap,cur,rfl,aC,m.obj (eJ g rfl) a1,rest⟩
theorem bs.aX{enc:α->List Value}(h:bs enc e sz base w v xs):∀k,v.ownBlock=some k->∃cur,w.heap[k]? = some (.cells cur e):=fun k hk=>by
 rcases h.2 with ⟨rfl,_⟩ | ⟨g,cap,cur,rfl,aC,a1,rest⟩
 .cases hk
 .simp only[Value.ownBlock,Option.some.injEq] at hk;subst hk;exact⟨cur,a1⟩
theorem ft.mod{A:Nat->Prop}(h:ft C e sz base w v xs)(m:Mod A w w')(eJ:∀k,k<w.heap.size->A k->k<base):ft C e sz base w' v xs:=by
 obtain⟨eY,aS,ba,aw⟩:=h.ex;refine⟨eY,aS,ba.mod m fun k hk a=>?_,fun i h1 U=>(aw i h1 U).move m (fun i ad a=>.inr (eJ i ad a)) fun _ _ a=>a⟩
 have:=ba.lt k hk
 have:=eJ k this.2 a
 omega
theorem ft.ext(h:ft C e sz base w v xs)(m:Ext w w'):ft C e sz base w' v xs:=h.mod (A:=fun _=>False) m.mod fun _ _ h=>h.elim
theorem ft.wr{b:Nat}(h:ft C e sz base w v xs)(m:dA b w w')(aC:b<base):ft C e sz base w' v xs:=h.mod (A:=fun k=>k=b) (m.mod rfl) fun k _ e=>by omega
theorem ft.new{R:World->Addr->α->Prop}[Rel R C sz](h:ft C e sz base w v xs):gJ (fun k=>k<base) (fun w=>bE sz R w v xs) w:=fun w' m=>by
 have bF:=h.mod m fun k _ a=>a;obtain⟨eY,aS,ba,aw⟩:=bF.ex;exact bE.Nb aS (ba.py vY) fun i h1 U=>(aw i h1 U).here
theorem ft.py{R:World->Addr->α->Prop}[Rel R C sz](h:ft C e sz base w v xs):bE sz R w v xs:=(h.new (R:=R)).here
theorem ft.under(h:ft C e sz base w v xs)(aC:base<=w.heap.size):∀k,xn v base k->k<w.heap.size:=fun k hk=>by
 rcases hk with hk | hk
 .exact(h.lt k hk).2
 .omega
theorem eF.own{p:World->Prop}{av:World}(aE:eF w p av)(h:ft C e sz base w v xs)(aC:base<=w.heap.size):gJ (xn v base) p av:=aE.mono fun i _ ad=>h.under aC i ad
theorem ft.box{t:TypeId}{k:Nat}{c:Array Value}(ba:ft C e sz base w v xs)(a1:w.grownBy w' v.ownBlock)(hk:w.heap[k]? = some (.cells c t))(aO:t≠e):w'.heap[k]? = some (.cells c t):=by
 obtain⟨eY,_,ba,_⟩:=ba.ex;rw[a1.block k (cG hk) fun e'=>?_]
 .exact hk
 rcases ba.2 with ⟨rfl,_⟩ | ⟨g,cap,c2,rfl,_,Al,_⟩
 .cases e'
 .simp only[Value.ownBlock,Option.some.injEq] at e';subst e';rw[Al] at hk;injection hk with hk
  injection hk with _ hk
  exact aO hk.symm
theorem ft.mq{w0:World}(ba:ft C e sz base w v xs)(he:Ext w0 w)(a1:w.grownBy w' v.ownBlock)(aC:w0.heap.size<=base):Ext w0 w':=he.grown a1 fun k hk=>Nat.le_trans aC (ba.lt k hk).1
theorem K.zy{P:Program}{c9:Value->World->Prop}{ty:TypeId}{b:Nat}{a:Addr}{c:Nat}{cs:List Value}{x:α}{t}(ay:ft C e sz base w v xs)(aw:eS w a cs)(ca:gJ (xn v base) (fun w=>C w cs x) w)
  (dm:cs.length=sz)(h1:∀u∈cs,u.oneCell'=true)(aC:(xs.length+1)*b<=140737488355328)(ki:xs.length+1<=maxLen)(jx:base<=w.heap.size)
  (hk:∀cf w',ft C e sz base w' cf (xs++[x])->w.grownBy w' v.ownBlock->c9 cf w'):lf P ty e sz b v (.slice (some a) 1 c) w c9 t:=by
 obtain⟨eY,aS,ba,ha⟩:=ay.ex;refine K.vH (enc:=sJ) (ys:=[(⟨cs,dm,h1⟩:oQ sz)]) ba vY (by simpa[sJ] using aw) rfl Kw (by rw[aS];exact aC) (by rw[aS];exact ki) jx fun cf w' l7 a1 kj=>hk cf w' ⟨eY++[⟨cs,dm,h1⟩],by simp[aS],l7,fun i h1 U=>?_⟩ a1;have hm:Mod (fun k=>v.ownBlock=some k) w w':=Mod.grown a1 fun k hk=>hk;have gr:∀k,k<w.heap.size->cf.ownBlock=some k->xn v base k:=fun k hk he=>by
  rcases kj with e | e
  .exact .inl (e ▸ he)
  .rw[e] at he;injection he with he;omega
 have key:∀{p:World->Prop},gJ (xn v base) p w->gJ (xn cf base) p w':=fun {p} h=>h.move hm (fun i _ a=>.inl a) fun i ad a=>by
  rcases a with a | a
  .exact gr i ad a
  .exact .inr a
 rw[List.length_append] at h1 U;by_cases ad:i<eY.length
 .have kD:i<xs.length:=by omega
  have:=key (ha i ad kD)
  simpa[List.getElem_append,ad,kD] using this
 .have bR:i=eY.length:=by simp at h1;omega
  subst bR;have aW:¬eY.length<xs.length:=by omega
  have:=key ca
  simpa[List.getElem_append,aW] using this
end
section
variable{α:Type}{enc:α->List Value}{e:TypeId}{sz base:Nat}{w w':World}{v:Value}{xs:List α}
theorem bs.box{t:TypeId}{k:Nat}{c:Array Value}(ba:bs enc e sz base w v xs)(a1:w.grownBy w' v.ownBlock)(hk:w.heap[k]? = some (.cells c t))(aO:t≠e):w'.heap[k]? = some (.cells c t):=by
 rw[a1.block k (cG hk) fun e'=>?_]
 .exact hk
 .obtain⟨cur,h⟩:=ba.aX k e'.symm;rw[hk] at h;injection h with h;injection h with _ h;exact aO h
theorem bs.mq{w0:World}(ba:bs enc e sz base w v xs)(he:Ext w0 w)(a1:w.grownBy w' v.ownBlock)(aC:w0.heap.size<=base):Ext w0 w':=he.grown a1 fun k hk=>Nat.le_trans aC (ba.lt k hk).1
theorem K.mV{P:Program}{c9:Value->World->Prop}{ty:TypeId}{hW b:Nat}{y:α}{cs:List Value}{t}(ay:bs enc e sz base w v xs)(aw:w.heap[b]? = some (.cells cs.toArray e))(gA:cs=enc y)(dm:∀x,(enc x).length=sz)(h1:∀y,∀u∈enc y,u.oneCell'=true)
  (aC:(xs.length+1)*hW<=140737488355328)(ki:xs.length+1<=maxLen)(jx:base<=w.heap.size)
  (hk:∀bm n c w',bs enc e sz base w' (.slice bm n c) (xs++[y])->w.grownBy w' v.ownBlock->c9 (.slice bm n c) w'):lf P ty e sz hW v (.slice (some ⟨b,0,none⟩) 1 1) w c9 t:=by
 refine K.vH (ys:=[y]) ay dm (by subst gA;simpa using hj aw) rfl h1 aC ki jx fun cf w' ba a1 _=>?_;obtain⟨bm,cap,rfl,_⟩:=ba.form;exact hk _ _ _ _ ba a1
end
theorem NU{α:Type}{l:List α}{k b:Nat}(hk:k<l.length)(aC:l.length*b<=140737488351232)(hm:l.length<=9223372036854775807):((l.take k).length+1)*b<=140737488355328/\(l.take k).length+1<=maxLen:=by
 have e:(l.take k).length=k:=by rw[List.length_take];omega
 rw[e]
 have:=Nat.mul_le_mul_right b (show k+1<=l.length from hk)
 exact⟨by omega,by unfold maxLen;omega⟩
theorem ft.snoc{α:Type}{C:World->List Value->α->Prop}{e:TypeId}{sz base:Nat}{w:World}{v:Value}{l:List α}{k:Nat}(hk:k<l.length)(h:ft C e sz base w v (l.take k++[l[k]])):ft C e sz base w v (l.take (k+1)):=by
 rw[List.take_succ_eq_append_getElem hk];exact h
theorem ft.done{α:Type}{C:World->List Value->α->Prop}{e:TypeId}{sz base:Nat}{w:World}{v:Value}{l:List α}{k:Nat}(hk:l.length<=k)(h:ft C e sz base w v (l.take k)):ft C e sz base w v l:=by
 rwa[List.take_of_length_le hk] at h
end bt
end
section
namespace bt
open Go Go.RowKit
inductive iR where
 | i
 | b
 | s
deriving DecidableEq
def iR.of:TypeDesc->Option iR
 | .int .i64=>some .i
 | .bool=>some .b
 | .string=>some .s
 | _=>none
theorem iR.aiv{rk:TypeDesc}(h:iR.of rk=some .i):rk = .int .i64:=by unfold iR.of at h;split at h<;>simp_all
theorem iR.aiu{rk:TypeDesc}(h:iR.of rk=some .b):rk = .bool:=by unfold iR.of at h;split at h<;>simp_all
theorem iR.aiw{rk:TypeDesc}(h:iR.of rk=some .s):rk = .string:=by unfold iR.of at h;split at h<;>simp_all
def iR.ok:iR->Value->Prop
 | .i,v => ∃n,v = .int .i64 n
 | .b,v => ∃n,v = .bool n
 | .s,v => ∃n,v = .string n
def qC:List iR->List Value->Prop
 | [],[]=>True
 | k :: q0,v :: vs=>k.ok v/\qC q0 vs
 | _,_=>False
theorem Kj:∀{q0:List iR} {vs:List Value},qC q0 vs->vs.length=q0.length
 | [],[],_=>rfl
 | _ :: _,_ :: _,h=>by simp[Kj h.2]
 | [],_ :: _,h=>h.elim
 | _ :: _,[],h=>h.elim
def zZ(P:Program):List Field->List iR->Nat->Bool
 | [],[],_=>true
 | f :: fM,k :: q0,n=>f.name != "_" && f.offset == n&&((P.underlying f.type).bind iR.of == some k)&&zZ P fM q0 (n+1)
 | _,_,_=>false
def GU(P:Program)(t:TypeId)(sig:List iR):Bool :=
 match P.underlying t with
 | some (.struct fM) => !P.stoodInHeld t && !P.eqGuardType P.depth t&&zZ P fM.toList sig 0
 | _=>false
theorem drop_cons{α:Type}{l:List α}{n:Nat}{x:α}{r:List α}(h:l.drop n=x :: r):l[n]? = some x/\l.drop (n+1)=r:=by
 have h1:l[n]? = some x:=by
  have:=congrArg (·[0]?) h
  simpa using this
 refine⟨h1,?_⟩
 have:=congrArg (List.drop 1) h
 simpa[List.drop_drop] using this
theorem SY{P:Program}(w:World)(d:Nat)(xs ys:Array Value):∀(fM:List Field) (q0:List iR) (n:Nat),zZ P fM q0 n=true->qC q0 (xs.toList.drop n)->qC q0 (ys.toList.drop n) ->
  ∃r:Bool,(Op.eqFields (d+1) xs ys fM).run P w = .ok r w/\(r=true↔xs.toList.drop n=ys.toList.drop n)
 | [],[],n,_,ar,b2=>by
  refine⟨true,by simp[Op.eqFields],?_⟩;have h1:=Kj ar;have U:=Kj b2;rw[List.eq_nil_of_length_eq_zero h1,List.eq_nil_of_length_eq_zero U];simp
 | [],_ :: _,_,h,_,_=>by simp[zZ] at h
 | _ :: _,[],_,h,_,_=>by simp[zZ] at h
 | f :: fM,k :: q0,n,h,ar,b2=>by
  simp only[zZ,Bool.and_eq_true,bne_iff_ne,ne_eq,beq_iff_eq] at h;obtain⟨⟨⟨h1,U⟩,ag⟩,aJ⟩:=h;obtain⟨rk,hu,hk⟩:=Option.bind_eq_some_iff.1 ag;cases Ly:xs.toList.drop n with
  | nil=>rw[Ly] at ar;exact ar.elim
  | cons x rx =>
   cases Lz:ys.toList.drop n with
   | nil=>rw[Lz] at b2;exact b2.elim
   | cons y X8 =>
    rw[Ly] at ar;rw[Lz] at b2;obtain⟨ex,S9⟩:=drop_cons Ly;obtain⟨xT,Ta⟩:=drop_cons Lz;obtain⟨r,a6,UF⟩:=SY w d xs ys fM q0 (n+1) aJ (by rw[S9];exact ar.2) (by rw[Ta];exact b2.2);have bj:rF P f.type=some false:=by
     unfold rF;rw[hu];cases rk<;>simp[iR.of] at hk<;>rfl
    have acu:xs[n]? = some x:=by rw[<-Array.getElem?_toList];exact ex
    have acS:ys[n]? = some y:=by rw[<-Array.getElem?_toList];exact xT
    have aji:(part f.type xs f.offset).run P w = .ok x w:=by simp[part,w1 bj,U,acu]
    have ajj:(part f.type ys f.offset).run P w = .ok y w:=by simp[part,w1 bj,U,acS]
    have Nj:∃q:Bool,(Op.equalIn (d+1) f.type x y).run P w = .ok q w/\(q=true↔x=y):=by
     cases k with
     | i =>
      obtain⟨a,rfl⟩:=ar.1;obtain⟨b,rfl⟩:=b2.1;have aO:=iR.aiv hk;subst aO;exact⟨_,run_equalIn_int w d f.type .i64 .i64 a b hu,by simp⟩
     | b =>
      obtain⟨a,rfl⟩:=ar.1;obtain⟨b,rfl⟩:=b2.1;have aO:=iR.aiu hk;subst aO;exact⟨_,run_equalIn_bool' w d f.type a b hu,by simp⟩
     | s =>
      obtain⟨a,rfl⟩:=ar.1;obtain⟨b,rfl⟩:=b2.1;have aO:=iR.aiw hk;subst aO;exact⟨_,run_equalIn_string w d f.type a b hu,by rw[<-beq_toListBytes];simp⟩
    obtain⟨q,aD,L9⟩:=Nj;refine⟨q&&r,?_,?_⟩
    .simp only[Op.eqFields,h1,ne_eq,not_false_eq_true,if_true,Sem.run_bind,aji,ajj,aD,Result.andThen_ok];cases q
     .simp
     .simpa using a6
    .rw[S9,Ta] at UF;simp only[Bool.and_eq_true,L9,UF,List.cons.injEq]
theorem X1{P:Program}{t:TypeId}{sig:List iR}(h:GU P t sig=true)(w:World){xs ys:List Value}(ar:qC sig xs)(b2:qC sig ys)(x y:Operand) :
  ∃r:Bool,(r=true↔xs=ys)/\∀w,(do eqGuard .eql t x y (.agg xs.toArray) (.agg ys.toArray);binOp .eql t (.agg xs.toArray) (.agg ys.toArray):Sem Value).run P w = .ok (.bool r) w /\
   (do eqGuard .neq t x y (.agg xs.toArray) (.agg ys.toArray);binOp .neq t (.agg xs.toArray) (.agg ys.toArray):Sem Value).run P w = .ok (.bool (!r)) w:=by
 unfold GU at h;cases hu:P.underlying t with
 | none=>rw[hu] at h;cases h
 | some rk =>
  cases rk<;>simp[hu] at h;rename_i fM;obtain⟨⟨h1,U⟩,ag⟩:=h;have UB:P.fieldsOf t=fM:=by simp[Program.fieldsOf,hu]
  have key:∀w,∃r:Bool,(Op.equalIn 10000 t (.agg xs.toArray) (.agg ys.toArray)).run P w = .ok r w/\(r=true↔xs=ys):=fun w=>by
   obtain⟨r,a6,ad⟩:=SY (P:=P) w 9998 xs.toArray ys.toArray fM.toList sig 0 ag (by simpa using ar) (by simpa using b2);refine⟨r,?_,by simpa using ad⟩;rw[run_equalIn_struct w 9999 t _ _ (by rw[UB];exact hu) h1,UB];exact a6
  obtain⟨r,_,ad⟩:=key w;refine⟨r,ad,fun w'=>?_⟩;obtain⟨gy,yp,cO⟩:=key w'
  have:gy=r:=by
   rcases Bool.eq_false_or_eq_true r with e | e
   .rw[e];exact cO.2 (ad.1 e)
   .rw[e];exact Bool.eq_false_iff.2 fun h=>by rw[ad.2 (cO.1 h)] at e;cases e
  subst this;refine⟨?_,?_⟩
  .simp only[Sem.run_bind,run_eqGuard_agg w' .eql t x y _ _ U,Result.andThen_ok,run_eql_struct,yp]
  .simp only[Sem.run_bind,run_eqGuard_agg w' .neq t x y _ _ U,Result.andThen_ok,run_neq_struct,yp]
section
variable{P:Program}{aI:Value->Prop}{dh da:Operand}
theorem K.acq{t:TypeId}{sig:List iR}{xs ys:List Value}{rl}(h:GU P t sig=true)(ar:qC sig xs)(b2:qC sig ys)(hk:∀r:Bool,(r=true↔xs=ys)->aI (.bool r)):gH P .eql t dh da (.agg xs.toArray) (.agg ys.toArray) aI rl:=by
 obtain⟨r,h1,U⟩:=X1 h default ar b2 dh da;exact K.bin (fun w=>(U w).1) (hk r h1)
theorem K.WM{t:TypeId}{sig:List iR}{xs ys:List Value}{rl}(h:GU P t sig=true)(ar:qC sig xs)(b2:qC sig ys)(hk:∀r:Bool,(r=true↔xs≠ys)->aI (.bool r)):gH P .neq t dh da (.agg xs.toArray) (.agg ys.toArray) aI rl:=by
 obtain⟨r,h1,U⟩:=X1 h default ar b2 dh da;exact K.bin (fun w=>(U w).2) (hk (!r) (by rw[ne_eq,<-h1];cases r<;>simp))
theorem K.acp{t e:TypeId}{a:Option Addr}{l c:Nat}{rl}(h:P.underlying t=some (.slice e))(hk:aI (.bool a.isNone)):gH P .eql t dh da (.slice a l c) (.slice none 0 0) aI rl :=
 K.bin (v:=.bool a.isNone) (fun w=>by simp[eqGuard_at_slice,binOp,run_equal_slice_nil w t e a l c h]) hk
end
end bt
end
section
namespace bt
open Go Go.RowKit
section
variable{P:Program}{w0 w:World}{S:Fr}{K:Fr->World->Prop}
def strip:eX->List Step×eX
 | .take s r=>(s :: (strip r).1,(strip r).2)
 | t=>([],t)
theorem Fw:∀(t:eX) (S:Fr),sj P (strip t).1 S w0 (fun bh=>nW P w0 (strip t).2 bh w K)->nW P w0 t S w K
 | .take ⟨d,none,i⟩ r,S,h=>by
  show mg P i S w0 fun v=>nW P w0 r (put S d v) w K;have bF:mg P i S w0 fun v=>sj P (strip r).1 (put S d v) w0 (fun bh=>nW P w0 (strip r).2 bh w K):=h;exact mg.mono (fun v aT=>Fw r _ aT) bF
 | .take ⟨d,some (j,b),i⟩ r,S,h=>by
  rcases h with ⟨t,aO,h1,U⟩ | ⟨hu,ag⟩
  .exact .inl ⟨t,aO,fun e=>mg.mono (fun v aT=>Fw r _ aT) (h1 e),fun e=>Fw r _ (U e)⟩
  .exact .inr ⟨hu,Fw r _ ag⟩
 | .done,S,h=>h
 | .nil,S,h=>h
 | .alt _ _ _,S,h=>h
 | .b0 _ _ _,S,h=>h
 | .wide _,S,h=>h
theorem Yt{b n:Nat}{c cs:Array Value}{e:TypeId}{gu:World->Prop}(aC:w.heap[b]? = some (.cells c e))(aw:c.size=n)(aE:cs.size=n)(h1:∀x∈cs.toList,x.oneCell'=true)
  (hk:∀av,dA b w av->av.heap[b]? = some (.cells cs e)->gu av):zq n (.pointer (some ⟨b,0,none⟩)) (.agg cs) w gu :=
 Ob aE (fun j aR=>⟨⟨_,e2 aC (Array.getElem?_eq_getElem (by omega))⟩,by rw[add_eq];simp[World.frozen?,aC]⟩) h1 (hk _ (dA.kK cs.toList w ⟨b,0,none⟩ 0) (Ye aC (by omega)))
structure sx where
 d:Nat
 ty:TypeId
 z:Array Value
 n:Nat
 x:Nat
def sx.new(v:sx):Step:=⟨some v.d,none,.e (.new v.ty (.agg v.z))⟩
def sx.st(v:sx):Step:=⟨none,none,.e (.ri v.n (.tmp v.d) (.tmp v.x))⟩
theorem Z3(v:sx)(k:Fr->World->Prop):B7 P w0 v.st S w k=zq v.n (S v.d) (S v.x) w (fun w'=>Ext w0 w'/\k S w'):=rfl
theorem ac9(v:sx)(k:Fr->World->Prop):ou P v.st S w k=zq v.n (S v.d) (S v.x) w (fun w'=>k S w'):=rfl
def YM(a b:sx):eX :=
 .alt a.new (.alt b.new (.alt a.st (.b0 b.st .done .nil) .nil) .nil) (.alt b.new (.alt a.new (.alt a.st (.b0 b.st .done .nil) .nil) .nil) .nil)
theorem alS(S:Fr){a b:Nat}(h:a≠b)(x y:Value):cm (cm S a x) b y=cm (cm S b y) a x:=by
 funext t;unfold cm;split<;>split<;>simp_all
theorem alN(a b:sx){nx n1:List Value}(bx:(a.d != b.d&&a.x != a.d&&a.x != b.d&&b.x != a.d&&b.x != b.d)=true)(MD:a.z.size=a.n)(uK:b.z.size=b.n)(bj:S a.x = .agg nx.toArray)(aC:S b.x = .agg n1.toArray)(afq:nx.length=a.n)(UR:n1.length=b.n)
  (adD:∀u∈nx,u.oneCell'=true)(adE:∀u∈n1,u.oneCell'=true)
  (hk:∀w' gn hW,Ext w0 w'->w0.heap.size<=gn->w0.heap.size<=hW->gn≠hW->w'.heap[gn]? = some (.cells nx.toArray a.ty)->w'.heap[hW]? = some (.cells n1.toArray b.ty) ->
   K (cm (cm S a.d (.pointer (some ⟨gn,0,none⟩))) b.d (.pointer (some ⟨hW,0,none⟩))) w'):nW P w0 (YM a b) S w0 K:=by
 simp only[Bool.and_eq_true,bne_iff_ne,ne_eq] at bx;obtain⟨⟨⟨⟨d1,d2⟩,d3⟩,d4⟩,d5⟩:=bx;have fin:∀(bh:Fr) (aU:World) (gn hW:Nat),bh=cm (cm S a.d (.pointer (some ⟨gn,0,none⟩))) b.d (.pointer (some ⟨hW,0,none⟩))->Ext w0 aU->w0.heap.size<=gn->w0.heap.size<=hW->gn≠hW ->
   aU.heap[gn]? = some (.cells a.z a.ty)->aU.heap[hW]? = some (.cells b.z b.ty)->nW P w0 (.alt a.st (.b0 b.st .done .nil) .nil) bh aU K:=by
  rintro bh aU gn hW rfl he h1 U cI Dm nM;refine⟨?_,trivial⟩;have bR:cm (cm S a.d (.pointer (some ⟨gn,0,none⟩))) b.d (.pointer (some ⟨hW,0,none⟩)) a.d = .pointer (some ⟨gn,0,none⟩):=by simp[cm,d1]
  have aW:cm (cm S a.d (.pointer (some ⟨gn,0,none⟩))) b.d (.pointer (some ⟨hW,0,none⟩)) a.x = .agg nx.toArray:=by simp[cm,d2,d3,bj]
  have bJ:cm (cm S a.d (.pointer (some ⟨gn,0,none⟩))) b.d (.pointer (some ⟨hW,0,none⟩)) b.d = .pointer (some ⟨hW,0,none⟩):=by simp[cm]
  have bZ:cm (cm S a.d (.pointer (some ⟨gn,0,none⟩))) b.d (.pointer (some ⟨hW,0,none⟩)) b.x = .agg n1.toArray:=by simp[cm,d4,d5,aC]
  rw[Z3,bR,aW];refine Yt Dm MD (by simpa using afq) (by simpa using adD) fun bb fT bA=>⟨fT.ext he h1,?_⟩;refine⟨?_,trivial⟩;rw[ac9,bJ,bZ];refine Yt (fT.obj nM (Ne.symm cI)) uK (by simpa using UR) (by simpa using adE) fun bq eu bw=>?_;exact hk bq gn hW (eu.ext (fT.ext he h1) U) h1 U cI (eu.obj bA cI) bw
 have m1:∀(al o':Obj),((w0.alloc al).alloc o').heap[w0.heap.size]? = some al:=fun al o'=>((Ext.refl (w0.alloc al)).alloc o').obj (heap_alloc_new w0 al);have m2:∀(al o':Obj),((w0.alloc al).alloc o').heap[w0.heap.size+1]? = some o':=fun al o'=>by
  have:=heap_alloc_new (w0.alloc al) o'
  rwa[World.size_alloc] at this
 refine⟨⟨(Ext.refl _).alloc _,⟨((Ext.refl _).alloc _).alloc _,?_⟩,trivial⟩,⟨(Ext.refl _).alloc _,⟨((Ext.refl _).alloc _).alloc _,?_⟩,trivial⟩,trivial⟩
 .refine fin _ _ w0.heap.size (w0.heap.size+1) ?_ (((Ext.refl _).alloc _).alloc _) (Nat.le_refl _) (by omega) (by omega) (m1 _ _) (m2 _ _);show cm (cm S a.d _) b.d (.pointer (some ⟨(w0.alloc _).heap.size,0,none⟩))=_;rw[World.size_alloc]
 .refine fin _ _ (w0.heap.size+1) w0.heap.size ?_ (((Ext.refl _).alloc _).alloc _) (by omega) (Nat.le_refl _) (by omega) (m2 _ _) (m1 _ _);show cm (cm S b.d _) a.d (.pointer (some ⟨(w0.alloc _).heap.size,0,none⟩))=_;rw[World.size_alloc,alS S (Ne.symm d1)]
theorem K.two{Q:dW->Fr->World->Prop}{t:eX}{gm:fa}{rl}(l:List Step)(qD:Nat)(Of:TypeId)(FJ:Array Value)(pv sg qE:Nat)(tb:TypeId)(FK:Array Value)(mH q9:Nat)(aO:strip t=(l,YM ⟨qD,Of,FJ,pv,sg⟩ ⟨qE,tb,FK,mH,q9⟩))(bx:(qD != qE&&sg != qD&&sg != qE&&q9 != qD&&q9 != qE)=true)(MD:FJ.size=pv)(uK:FK.size=mH)
  (hk:∀av,Ext w av->mb P l S av (fun bh => ∃nx n1:List Value,bh sg = .agg nx.toArray/\bh q9 = .agg n1.toArray/\nx.length=pv/\n1.length=mH/\(∀u∈nx,u.oneCell'=true)/\(∀u∈n1,u.oneCell'=true) /\
   ∀w' gn hW,Ext av w'->av.heap.size<=gn->av.heap.size<=hW->gn≠hW->w'.heap[gn]? = some (.cells nx.toArray Of)->w'.heap[hW]? = some (.cells n1.toArray tb) ->
    dV P gm Q (cm (cm bh qD (.pointer (some ⟨gn,0,none⟩))) qE (.pointer (some ⟨hW,0,none⟩))) w' ⟨⟩) ⟨⟩):dV P (.seq (.ec t) gm) Q S w rl:=by
 unfold dV mb at *;show dU P (.ec t) _ S w;intro av he;refine Fw t S ?_;have h:=hk av he;rw[aO];refine Bf l S av _ _ (fun bh _ bF=>?_) h;obtain⟨nx,n1,h1,U,ag,aJ,bg,bS,cj⟩:=bF;exact alN ⟨qD,Of,FJ,pv,sg⟩ ⟨qE,tb,FK,mH,q9⟩ bx MD uK h1 U ag aJ bg bS fun w' gn hW bR aW bJ bZ b5 cM=>cj w' gn hW bR aW bJ bZ b5 cM
def hG(w0 w w':World)(p:World->Prop):Prop := ∀b1,Ext w0 b1->w'.heap.size<=b1.heap.size->(∀k,w.heap.size<=k->k<w'.heap.size->b1.heap[k]? = w'.heap[k]?)->p b1
structure amG(w0:World)(a b:sx)(S:Fr)(sg q9:List Value->World->Prop)(iE ub pv mH:Bool)(bh:Fr)(w:World)(nx n1:List Value)(oC bj hb aC u6 u7:Nat):Prop where
 ext:Ext w0 w
 kB:∀t,t≠a.d->t≠b.d->t≠a.x->t≠b.x->bh t=S t
 dJ:iE=true->bh a.x = .agg nx.toArray/\nx.length=a.n/\(∀u∈nx,u.oneCell'=true)/\bj<=w.heap.size/\∀b1,Ext w0 b1->w.heap.size<=b1.heap.size->(∀k,oC<=k->k<bj->b1.heap[k]? = w.heap[k]?)->sg nx b1
 bC:ub=true->bh b.x = .agg n1.toArray/\n1.length=b.n/\(∀u∈n1,u.oneCell'=true)/\aC<=w.heap.size/\∀b1,Ext w0 b1->w.heap.size<=b1.heap.size->(∀k,hb<=k->k<aC->b1.heap[k]? = w.heap[k]?)->q9 n1 b1
 a2:pv=true->bh a.d = .pointer (some ⟨u6,0,none⟩)/\w0.heap.size<=u6/\u6<w.heap.size/\w.heap[u6]? = some (.cells a.z a.ty)
 cp:mH=true->bh b.d = .pointer (some ⟨u7,0,none⟩)/\w0.heap.size<=u7/\u7<w.heap.size/\w.heap[u7]? = some (.cells b.z b.ty)
 ky:iE=true->pv=true->u6<oC\/bj<=u6
 l0:iE=true->mH=true->u7<oC\/bj<=u7
 gn:ub=true->pv=true->u6<hb\/aC<=u6
 hW:ub=true->mH=true->u7<hb\/aC<=u7
 ao3:pv=true->mH=true->u6≠u7
structure amD(a b:sx):Prop where
 d12:a.d≠b.d
 d13:a.d≠a.x
 d14:a.d≠b.x
 d23:b.d≠a.x
 d24:b.d≠b.x
 d34:a.x≠b.x
end
end bt
end
section
namespace bt
open Go Go.RowKit
theorem K.wide{P:Program}{av w:World}{S:Fr}{t:eX}{K:Fr->World->Prop}{rl}(h:∃C:World->Prop,C w/\dT P C t S w K):fJ P av (.wide t) S w K rl:=by
 unfold fJ;exact h
section
variable{P:Program}{C:World->Prop}{S:Fr}{w:World}{K:Fr->World->Prop}
theorem dT.iE{k d x:Nat}{r:eX}{a:Addr}(ar:S x = .pointer (some a))(h:dT P C r (cm S d (.pointer (some (a.add k)))) w K):dT P C (.take ⟨some d,none,.p (.iE k (.tmp x))⟩ r) S w K:=⟨a,ar,h⟩
theorem dT.ld{d x:Nat}{r:eX}{a:Addr}{v:Value}(ar:S x = .pointer (some a))(aT:∀w,C w->w.cell? a=some v)(h:dT P C r (cm S d v) w K):dT P C (.take ⟨some d,none,.r (.ld (.tmp x))⟩ r) S w K :=
 ⟨v,fun w hw=>⟨a,v,ar,aT w hw,rfl⟩,h⟩
theorem dT.zx{s:Step}{r:eX}(h:lq P C s S w fun S w=>dT P C r S w K):dT P C (.alt s r .nil) S w K:=⟨h,trivial⟩
theorem dT.xY{s:Step}{r:eX}(h:ou P s S w fun S w=>dT P C r S w K):dT P C (.b0 s r .nil) S w K:=⟨h,trivial⟩
end
theorem lq.e{P:Program}{C:World->Prop}{i:rq}{d:Nat}{S:Fr}{w:World}{k:Fr->World->Prop}(h:mL P i S w fun v w'=>C w'/\k (put S (some d) v) w'):lq P C ⟨some d,none,.e i⟩ S w k:=h
theorem ou.e{P:Program}{i:rq}{d:Nat}{S:Fr}{w:World}{k:Fr->World->Prop}(h:mL P i S w fun v w'=>k (put S (some d) v) w'):ou P ⟨some d,none,.e i⟩ S w k:=h
theorem Z7{P:Program}{ty e:TypeId}{sz b:Nat}{s x:Value}{w:World}{K:Value->World->Prop}(h:∀t,lf P ty e sz b s x w K t):xa P ty e sz b s x w K:=by
 have:=h ⟨⟩
 unfold lf at this;exact this
theorem Oc{x v:Value}{w:World}{K:World->Prop}(h:∀t,qv x v w K t):xv x v w K:=by
 have:=h ⟨⟩
 unfold qv at this;exact this
abbrev cz(s:Option Addr×Nat×Nat):Value:=.slice s.1 s.2.1 s.2.2
def dF{β:Type}(f:Nat->β)(i:Nat)(v:β):Nat->β:=fun j=>if j=i then v else f j
theorem Iz{β:Type}(f:Nat->β)(i:Nat)(v:β):dF f i v i=v:=by simp[dF]
theorem E6{β:Type}(f:Nat->β){i j:Nat}(v:β)(h:j≠i):dF f i v j=f j:=by simp[dF,h]
structure hU{α:Type}(enc:α->List Value)(e:TypeId)(sz base:Nat)(w:World)(n:Nat)(vs:Nat->Option Addr×Nat×Nat)(xs:Nat->List α):Prop where
 own:∀i,i<n->bs enc e sz base w (cz (vs i)) (xs i)
 apart:∀i j k,i<n->j<n->i≠j->(cz (vs i)).ownBlock=some k->(cz (vs j)).ownBlock≠some k
section
variable{α:Type}{enc:α->List Value}{e:TypeId}{sz base n:Nat}{w w':World}{vs:Nat->Option Addr×Nat×Nat}{xs:Nat->List α}
theorem hU.mod{A:Nat->Prop}(h:hU enc e sz base w n vs xs)(m:Mod A w w')(eJ:∀i k,i<n->(cz (vs i)).ownBlock=some k->¬A k):hU enc e sz base w' n vs xs :=
 ⟨fun i ad=>(h.own i ad).mod m (eJ i · ad),h.apart⟩
theorem hU.ext(h:hU enc e sz base w n vs xs)(m:Ext w w'):hU enc e sz base w' n vs xs:=h.mod (A:=fun _=>False) m.mod fun _ _ _ _ a=>a
theorem hU.not(h:hU enc e sz base w n vs xs){k:Nat}{c:Array Value}{t:TypeId}(hk:w.heap[k]? = some (.cells c t))(aO:t≠e):∀i,i<n->(cz (vs i)).ownBlock≠some k:=fun i ad he=>by
 obtain⟨cur,U⟩:=(h.own i ad).aX k he;rw[hk] at U;injection U with U;injection U with _ U;exact aO U
theorem hU.lt(h:hU enc e sz base w n vs xs):∀i k,i<n->(cz (vs i)).ownBlock=some k->base<=k/\k<w.heap.size:=fun i k ad he=>(h.own i ad).lt k he
theorem hU.app{P:Program}{c9:Value->World->Prop}{ty:TypeId}{b:Nat}{a:Addr}{c:Nat}{y:α}(i:Nat)(ad:i<n)(h:hU enc e sz base w n vs xs)(dm:∀x,(enc x).length=sz)(aw:eS w a (enc y))(h1:∀y,∀u∈enc y,u.oneCell'=true)
  (aC:((xs i).length+1)*b<=140737488355328)(ki:(xs i).length+1<=maxLen)(jx:base<=w.heap.size)
  (hk:∀cf w',hU enc e sz base w' n (dF vs i cf) (dF xs i (xs i++[y]))->w.grownBy w' (cz (vs i)).ownBlock->cf.2.1=(xs i).length+1->c9 (cz cf) w'):xa P ty e sz b (cz (vs i)) (.slice (some a) 1 c) w c9:=by
 refine Z7 fun t=>K.vH (ys:=[y]) (h.own i ad) dm (by simpa using aw) rfl h1 aC ki jx fun cf w' ba a1 kj=>?_;obtain⟨bm,cap,rfl,_⟩:=ba.form;refine hk (bm,(xs i++[y]).length,cap) w' ⟨fun j aR=>?_,fun j MH k aR eL cI he=>?_⟩ a1 (by simp)
 .by_cases gY:j=i
  .subst gY;rw[Iz,Iz];exact ba
  .rw[E6 _ _ gY,E6 _ _ gY];exact(h.own j aR).mod (A:=fun k=>(cz (vs i)).ownBlock=some k) (Mod.grown a1 fun k hk=>hk) fun k hk a=>h.apart j i k aR ad gY hk a
 .have key:∀q,q<n->q≠i->∀k,(cz (vs q)).ownBlock=some k->(Value.slice bm (xs i++[y]).length cap).ownBlock≠some k:=fun q aD L9 k hk he=>by
   rcases kj with e | e
   .rw[e] at he;exact h.apart q i k aD ad L9 hk he
   .rw[e] at he;injection he with he;have:=(h.lt q k aD hk).2;omega
  by_cases gY:j=i
  .subst gY;rw[Iz] at he;rw[E6 _ _ (Ne.symm cI)];exact fun U=>key MH eL (Ne.symm cI) k U he
  .rw[E6 _ _ gY] at he;by_cases UM:MH=i
   .subst UM;rw[Iz];exact key j aR gY k he
   .rw[E6 _ _ UM];exact h.apart j MH k aR eL cI he
end
end bt
end
section
namespace bt
open Go Go.RowKit
theorem bE.sub{α:Type}{sz:Nat}{R:World->Addr->α->Prop}{w:World}{bm:Option Addr}{n c:Nat}{xs:List α}(h:bE sz R w (.slice bm n c) xs)(l u:Nat)(aS:l<=u)(hu:u<=xs.length) :
  bE sz R w (.slice (if c=l then bm else bm.map (·.add (l*sz))) (u - l) (c - l)) ((xs.drop l).take (u - l)) :=
 (h.tail l (by omega)).head (u - l) (by rw[List.length_drop];omega)
section
variable{P:Program}{aI:Value->Prop}{S:Fr}{w:World}
theorem K.II{α:Type}{sz n cap:Nat}{R:World->Addr->α->Prop}{bm:Option Addr}{x y:Operand}{k k':IntKind}{xs:List α}{t}(l u:Nat)(ay:bE sz R w (.slice bm n cap) xs)(ar:bo S x = .int k (l:Int))(b2:bo S y = .int k' (u:Int))(aS:l<=u)(hu:u<=xs.length)
  (hk:∀al c,bE sz R w (.slice al (u - l) c) ((xs.drop l).take (u - l))->aI (.slice al (u - l) c)):tJ S sz (.slice bm n cap) (some x) (some y) none aI t:=by
 obtain⟨bR,aW,bJ⟩:=ay.len;refine K.hQ l u cap (by simp[fm,ar]) (by simp[fm,b2]) (by simp[fm]) ⟨aS,by omega,Nat.le_refl _⟩ (by simp) ?_;exact hk _ _ (ay.sub l u aS hu)
theorem K.ahy{b i j:Nat}{c:List Value}{ty:TypeId}{f:Nat×Nat}{v:Value}{w0:World}{t}(aC:w0.heap[b]? = some (.cells c.toArray ty f))(he:Ext w0 w)(aR:c[i+j]? = some v)(hk:aI v):qp (.pointer (some ((Addr.add ⟨b,0,none⟩ i).add j))) w aI t:=by
 rw[add_add];exact K.ti aC he aR hk
end
theorem af{A B:Prop}(k:B)(h:vx B->A:=by
 intro q
 (repeat' first
 | assumption
 | exact Ext.refl _
 | refine Ext.trans ?_ (by assumption)
 | simp -dsimp only[c4,cF,Nat.reduceAdd,Nat.reduceEqDiff,reduceIte,reduceCtorEq,db,vh,vg,uQ,uP,ui,uh,List.cons_append,List.nil_append]
 | refine K.wrap (by omega) ?_
 | refine K.ti (by assumption) ?_ rfl ?_
 | refine K.q1 (by assumption) ?_ rfl ?_
 | refine K.uL (by omega) ?_
 | refine K.sF (by first | assumption | omega) ?_
 | refine K.tS (by first | assumption | omega) ?_
 | refine K.qB (by assumption) ?_
 | refine K.rL (by assumption) ?_
 | refine K.uU (by assumption) ?_ (by omega) rfl ?_
 | refine K.uV (by assumption) ?_ (by omega) rfl ?_
 | refine K.uT (by assumption) ?_ (by omega) rfl ?_
 | refine K.ahy (by assumption) ?_ rfl ?_
 | refine K.MU (by assumption) ?_ rfl ?_
 | refine K.MT (by assumption) ?_ rfl ?_
 | refine K.gV (by assumption) ?_ rfl ?_
 | refine K.tm (fun _=>by (simp -dsimp only[c4,Nat.reduceAdd,Nat.reduceEqDiff,reduceIte,reduceCtorEq,db]);rfl) rfl rfl (by first | assumption | (simp[Value.oneCell',o.c7.enc,o.Ref.enc,o.Node.enc,o.Scalar.enc,o.Var.enc,o.dr.enc,o.Act.enc,o.dI.enc,o.dy.enc,o.kQ.enc];done)) ?_
 | refine K.new ?_
 | refine K.jJ (by assumption) rfl rfl (by first | assumption | (simp[Value.oneCell',o.c7.enc,o.Ref.enc,o.Node.enc,o.Scalar.enc,o.Var.enc,o.dr.enc,o.Act.enc,o.dI.enc,o.dy.enc,o.kQ.enc];done)) ?_
 | refine K.st1 (by assumption) (Nat.le_of_ble_eq_true rfl) rfl ?_
 | refine K.tv (by assumption) (Nat.le_of_ble_eq_true rfl) rfl ?_
 | refine K.lv (by (simp only[eP,lay,o7,fu,cu,Value.cells,Nat.reduceAdd,Nat.reduceEqDiff,reduceIte,List.range,List.range.loop,List.map_cons,List.map_nil]);rfl) ?_
 | refine K.cW (by (simp only[eP,lay,o7,fu,cu,Value.cells,Nat.reduceAdd,Nat.reduceEqDiff,reduceIte]);rfl) ?_)
 exact q.out):A:=h ⟨k⟩
end bt
end
section
namespace o
open Go
structure Scope where
 scalars:List Scalar
 vars:List Var
 aL:List dr
 procs:List dy
 locals:List Var
 self:Int
structure Env where
 vars:List (List Int)
 lens:List Int
 locals:List Int
 at_:List (List Int)
 self:Int
def nth{α:Type}(l:List α)(n:Int):Option α:=if 0<=n then l[n.toNat]? else none
theorem iY{α:Type}{l:List α}{n:Int}(h:0<=n)(U:n<l.length):nth l n=some (l[n.toNat]'(by omega)):=by
 unfold nth;rw[if_pos h,List.getElem?_eq_getElem]
theorem hN{α:Type}{l:List α}{n:Int}(h:n<0\/(l.length:Int)<=n):nth l n=none:=by
 unfold nth;split
 .rw[List.getElem?_eq_none (by omega)]
 .rfl
def within(n:Int):Bool:=decide (-1048576<=n/\n<=1048576)
def tell(f:Int->Int->Int)(a b:Int):Int×Bool:=if within a&&within b&&within (f a b) then (f a b,true) else (0,false)
def bit(b:Bool):Int:=if b then 1 else 0
def eV(op:Int):Int:=if op=3 then 1 else if 1<=op/\op<=8 then 0 else if op=9\/op=10 then 1 else if 11<=op/\op<=19 then 2 else -1
def wH(op:Int):Bool:=decide (9<=op/\op<=19)
structure pH where
 parts:Int
 jb:Int
 makes:Int
 Sy:Int->Int->Int×Bool
def yU(jb:Int)(p:Int->Int->Bool):pH:=⟨2,jb,1,fun a b=>(bit (p a b),true)⟩
def gE(x:Int):Option pH :=
 if x=9 then some ⟨1,1,1,fun a _=>(bit (decide (a=0)),true)⟩
 else if x=10 then some ⟨1,0,0,fun a _=>tell (· - ·) 0 a⟩
 else if x=11 then some ⟨2,0,0,tell (· + ·)⟩
 else if x=12 then some ⟨2,0,0,tell (· - ·)⟩
 else if x=13 then some ⟨2,0,0,tell (· * ·)⟩
 else if x=14 then some (yU (-1) fun a b=>decide (a=b))
 else if x=15 then some (yU (-1) fun a b => !decide (a=b))
 else if x=16 then some (yU 0 fun a b=>decide (a<b))
 else if x=17 then some (yU 0 fun a b=>decide (a<=b))
 else if x=18 then some (yU 1 fun a b => !decide (a=0) && !decide (b=0))
 else if x=19 then some (yU 1 fun a b => !decide (a=0) || !decide (b=0))
 else none
theorem Nf{x:Int}(h:wH x=false):gE x=none:=by
 have bF:¬(9<=x/\x<=19):=by simpa[wH] using h
 unfold gE
 repeat rw[if_neg (by omega)]
theorem EZ{x:Int}{al:pH}(h:gE x=some al):al.parts=eV x/\wH x=true:=by
 unfold gE at h
 repeat' split at h
 all_goals first | (cases h;subst_vars;decide) | cases h
def stepG(f:Node->List Int->Int×Int)(x:Node)(st:List Int):Int×List Int :=
 if eV x.op<0 then (3,st) else if (st.length:Int)<eV x.op then (4,st)
 else if (f x st).2≠0 then ((f x st).2,st)
 else if (st.take (st.length - (eV x.op).toNat)++[(f x st).1]).length > 12 then (12,st) else (0,st.take (st.length - (eV x.op).toNat)++[(f x st).1])
def eE(f:Node->List Int->Int×Int):List Node->List Int->Int×List Int
 | [],st=>(0,st)
 | x :: r,st=>if (stepG f x st).1≠0 then stepG f x st else eE f r (stepG f x st).2
def kt(f:Node->List Int->Int×Int)(e:List Node):Int×Int :=
 if e.length > 24 then (0,5) else if e.length=0 then (0,4)
 else if (eE f e []).1≠0 then (0,(eE f e []).1) else if (eE f e []).2.length > 1 then (0,5) else ((eE f e []).2.headD 0,0)
theorem Bo(f:Node->List Int->Int×Int):∀(a b:List Node) (st:List Int),eE f (a++b) st=if (eE f a st).1≠0 then eE f a st else eE f b (eE f a st).2
 | [],b,st=>by simp[eE]
 | x :: a,b,st=>by
  simp only[List.cons_append,eE];by_cases h:(stepG f x st).1=0
  .simp only[h,ne_eq,not_true_eq_false,if_false];exact Bo f a b _
  .simp[h]
theorem vb{f:Node->List Int->Int×Int}{e:List Node}{k:Nat}{st:List Int}(hk:k<e.length)(h:eE f (e.take k) []=(0,st)):eE f (e.take (k+1)) []=stepG f e[k] st:=by
 rw[List.take_succ_eq_append_getElem hk,Bo,h];simp only[ne_eq,not_true_eq_false,if_false,eE];split
 .rfl
 .rename_i U;simp at U;exact Prod.ext U.symm rfl
theorem NX{f:Node->List Int->Int×Int}{e:List Node}{k:Nat}{q:Int×List Int}(h:eE f (e.take k) []=q)(ak:q.1≠0):eE f e []=q:=by
 have:=Bo f (e.take k) (e.drop k) []
 rw[List.take_append_drop,h,if_pos ak] at this;exact this
theorem NW{f:Node->List Int->Int×Int}{e:List Node}(uf:e.length<=24){k:Nat}(hk:k<e.length){st:List Int}(h:eE f (e.take k) []=(0,st))(ak:(stepG f e[k] st).1≠0):kt f e=(0,(stepG f e[k] st).1):=by
 have U:=vb hk h;have ag:=NX U ak;unfold kt;rw[if_neg (by omega),if_neg (by omega),ag,if_pos ak]
theorem aln{f:Node->List Int->Int×Int}{x:Node}{st:List Int}(h:(stepG f x st).1=0):1<=(stepG f x st).2.length/\(stepG f x st).2.length<=12:=by
 unfold stepG at h ⊢
 repeat' split
 all_goals simp_all
theorem alm{f g:Node->List Int->Int×Int}{x:Node}{st:List Int}(h:0<=eV x.op->eV x.op<=st.length->(f x st).2=(g x st).2/\((f x st).2=0->(f x st).1=(g x st).1)):stepG f x st=stepG g x st:=by
 unfold stepG;split
 .rfl
 .split
  .rfl
  .obtain⟨h1,U⟩:=h (by omega) (by omega);rw[<-h1];split
   .rfl
   .rename_i ag;simp at ag;rw[U ag]
def gU(n:Int)(s:Scope):Int×Bool:=if n=0 then (0,true) else if n<0\/(s.scalars.length:Int)<n then (0,false) else (1+n,true)
def fQ(l:List Var)(n:Int)(s:Scope):Int×Int×Bool :=
 match nth l n with
 | some v=>((gU v.scalar s).1,(gU v.over s).1,(gU v.scalar s).2&&(gU v.over s).2)
 | none=>(0,0,false)
def jF(n:Int)(s:Scope):Int×Int:=match nth s.aL n with | some c=>if (gU c.scalar s).2 then (0,0) else (0,8) | none=>(0,8)
def AF(n:Int)(s:Scope):Int×Int:=if 0<=n then (match nth s.procs (n.tdiv 16) with | some p=>if n.tmod 16<p.cw then (0,0) else (0,8) | none=>(0,8)) else (0,8)
def lN(x:Node)(s:Scope):Int×Int :=
 if x.op=5 then (if 1<=s.self/\s.self<=s.scalars.length then (1+s.self,0) else (0,8))
 else if x.op=6 then jF x.n s
 else if x.op=7 then AF x.n s
 else if x.op=8 then (if 0<=x.n/\x.n<s.scalars.length then (2+x.n,0) else (0,8))
 else (0,8)
def iu(x:Node)(s:Scope)(top:Int):Int×Int :=
 if x.op=1 then (if within x.n then (0,0) else (0,10))
 else if x.op=2\/x.op=3\/x.op=4 then
  (let q:=fQ (if x.op=4 then s.locals else s.vars) x.n s
   if q.2.2=false then (0,8) else if (x.op=3/\(q.2.1=0\/top≠q.2.1))\/(x.op≠3/\q.2.1≠0) then (0,9) else (q.1,0))
 else lN x s
def nk(al:pH)(l:List Int):Int×Int:=if l.all (fun k=>(decide (al.jb = -1)||decide (k=al.jb))&&decide (k=l.headD 0)) then (al.makes,0) else (0,9)
def e7(s:Scope)(x:Node)(st:List Int):Int×Int :=
 match gE x.op with
 | some al=>nk al (st.drop (st.length - al.parts.toNat))
 | none=>iu x s (st.getLastD 0)
def kind(e:List Node)(s:Scope):Int×Int:=kt (e7 s) e
def jo(l:List Int)(n:Int):Int×Int:=match nth l n with | some x=>(x,0) | none=>(0,8)
def iN(x:Node)(v:Env)(top:Int):Int×Int :=
 if x.op=1 then (if within x.n then (x.n,0) else (0,10))
 else if x.op=2 then (match nth v.vars x.n with | some l=>jo l 0 | none=>(0,8))
 else if x.op=3 then (match nth v.vars x.n with | some l=>(match nth l (top - 1) with | some y=>(y,0) | none=>(0,10)) | none=>(0,8))
 else if x.op=4 then jo v.locals x.n
 else if x.op=6 then jo v.lens x.n
 else if x.op=5 then (v.self,0)
 else if x.op=7 then (if 0<=x.n then (match nth v.at_ (x.n.tdiv 16) with | some l=>jo l (x.n.tmod 16) | none=>(0,8)) else (0,8))
 else (0,0)
def Oy(al:pH)(l:List Int):Int×Int:=let r:=al.Sy (l.headD 0) (l.getLastD 0);if r.2 then (r.1,0) else (0,10)
def hy(v:Env)(x:Node)(st:List Int):Int×Int :=
 match gE x.op with
 | some al=>Oy al (st.drop (st.length - al.parts.toNat))
 | none=>iN x v (st.getLastD 0)
def eval(e:List Node)(v:Env):Int×Int:=kt (hy v) e
def kL(scalar over:Int)(s:Scope):Int×Bool :=
 if scalar<0\/(s.scalars.length:Int)<scalar\/over<0\/(s.scalars.length:Int)<over then (0,false) else if scalar=0 then (0,true) else (1+scalar,true)
theorem alA{a b:Int}{s:Scope}(h:(kL a b s).2=false):(kL a b s).1=0:=by
 unfold kL at h ⊢;by_cases q:a<0\/(s.scalars.length:Int)<a\/b<0\/(s.scalars.length:Int)<b
 .rw[if_pos q]
 .rw[if_neg q] at h;by_cases dN:a=0
  .rw[if_pos dN] at h;cases h
  .rw[if_neg dN] at h;cases h
def declared(l:List Var)(n:Int)(s:Scope):Option (Var×Int) :=
 match nth l n with
 | some v=>if (kL v.scalar v.over s).2 then some (v,(kL v.scalar v.over s).1) else none
 | none=>none
theorem abP{l:List Var}{n:Int}{s:Scope}{q:Var×Int}(h:declared l n s=some q):0<=q.1.over/\q.1.over<=s.scalars.length:=by
 unfold declared at h;cases aE:nth l n with
 | none=>rw[aE] at h;cases h
 | some v =>
  rw[aE] at h;simp only at h;by_cases aO:(kL v.scalar v.over s).2=true
  .rw[if_pos aO] at h;unfold kL at aO;by_cases dH:v.scalar<0\/(s.scalars.length:Int)<v.scalar\/v.over<0\/(s.scalars.length:Int)<v.over
   .rw[if_pos dH] at aO;cases aO
   .injection h with h
    subst h;simp only;omega
  .rw[if_neg aO] at h;cases h
def channel(n:Int)(s:Scope):Option Int :=
 match nth s.aL n with
 | some c=>if (kL c.scalar 0 s).2 then some (kL c.scalar 0 s).1 else none
 | none=>none
def asked(e:List Node)(k:Int)(s:Scope):Int:=if (kind e s).2≠0 then (kind e s).2 else if (kind e s).1≠k then 9 else 0
def gO(a:Act):Bool:=decide (a.kind=4\/a.kind=5)
def Fb(a:Act)(k:Int)(s:Scope):Int:=match declared s.locals a.loc s with | some (v,k')=>if v.over≠0\/k'≠k then 9 else 0 | none=>8
def jQ(a:Act)(s:Scope):Int :=
 if a.kind=1\/a.kind=2\/a.kind=3 then
  match declared (if a.kind=3 then s.locals else s.vars) a.to s with
  | none=>8
  | some (v,k) =>
   if (v.over≠0)≠(a.kind=2) then 9
   else if a.kind=2/\asked a.index (1+v.over) s≠0 then asked a.index (1+v.over) s
   else asked a.value k s
 else if a.kind=4\/a.kind=5 then
  match channel a.to s with
  | none=>8
  | some k=>if a.kind=5 then Fb a k s else asked a.value k s
 else 3
def head(c:dI)(cw:Int):Int :=
 if isName c.name=false then 6 else if c.from_<0\/cw<=c.from_\/c.to<0\/cw<=c.to then 10 else if c.b6.length > 6 then 11 else 0
def kd(s:Scope):List Act->Nat->Bool->Int×Int
 | [],_,_=>(0,0)
 | a :: r,i,t=>if gO a&&t then (2+i,7) else if jQ a s≠0 then (2+i,jQ a s) else kd s r (i+1) (t||gO a)
def iC(c:dI)(cw:Int)(s:Scope):Int×Int :=
 if head c cw≠0 then (0,head c cw) else if c.guard.length > 0/\asked c.guard 1 s≠0 then (1,asked c.guard 1 s) else kd s c.b6 0 false
def comm:List Act->Int×Int
 | []=>(0,0)
 | a :: r=>if gO a then (a.kind,a.to) else comm r
def ways(c:dI)(l:List dr):Int:=if (comm c.b6).1=4 then (match nth l (comm c.b6).2 with | some x=>if x.WB then 2 else 1 | none=>1) else 1
def inner(p:dy)(s:Scope):Scope:={ s with locals:=p.vars,self:=p.over }
def whole(p:dy)(s:Scope):Int :=
 if isName p.name=false then 6 else if p.over<0\/(s.scalars.length:Int)<p.over then 8 else if p.cw<1\/12<p.cw then 10 else if p.cH.length > 12 then 11 else 0
def pt(s:Scope):List Var->Nat->Int×Int
 | [],_=>(0,0)
 | v :: r,i=>if v.over≠0 then (i,9) else if s.vars.any (fun x=>decide (x.name=v.name)) then (i,7) else pt s r (i+1)
def kI(p:dy)(s:Scope):Int×Int:=if (vars p.vars s.scalars 4).2≠0 then vars p.vars s.scalars 4 else pt s p.vars 0
def kV(own:Scope)(cw:Int)(all:List dI):List dI->Nat->Int×Int×Int
 | [],_=>(0,0,0)
 | c :: r,i=>if (iC c cw own).2≠0 then (2+(i:Int),(iC c cw own).1,(iC c cw own).2)
  else if (all.take i).any (fun x=>decide (x.name=c.name)) then (2+(i:Int),0,7) else kV own cw all r (i+1)
def ho(p:dy)(s:Scope):Int×Int×Int :=
 if whole p s≠0 then (0,0,whole p s) else if (kI p s).2≠0 then (1,(kI p s).1,(kI p s).2) else kV (inner p s) p.cw p.cH p.cH 0
def eR(m:Model):Scope:=⟨m.scalars,m.vars,m.aL,m.procs,[],0⟩
def gM(m:Model)(i:Int):Scope:=match nth m.procs i with | some p=>inner p (eR m) | none=>eR m
def elems(m:Model)(p:dy):Nat:=match nth m.scalars (p.over - 1) with | some s=>if s.size<1\/4<s.size then 0 else s.size.toNat | none=>0
theorem CF(m:Model)(p:dy):elems m p<=4:=by
 unfold elems;split
 .split
  .omega
  .omega
 .omega
def iZ(i:Nat)(n:Nat):List c7:=(List.range n).map fun(k:Nat)=>(⟨(i:Int),(k:Int)+1⟩:c7)
def iw(i:Nat)(p:dy):List c7:=if p.over=0 then [(⟨(i:Int),0⟩:c7)] else []
def iW(m:Model):List dy->Nat->List c7
 | [],_=>[]
 | p :: r,i=>iw i p++iZ i (elems m p)++iW m r (i+1)
def insts(m:Model):List c7:=iW m m.procs 0
theorem W3(i n:Nat):iZ i (n+1)=iZ i n++[⟨(i:Int),(n:Int)+1⟩]:=by unfold iZ;rw[List.range_succ,List.map_append];rfl
theorem VI{m:Model}{k:Nat}(h:k<m.procs.length):iW m (m.procs.drop k) k=iw k m.procs[k]++iZ k (elems m m.procs[k])++iW m (m.procs.drop (k+1)) (k+1):=by
 rw[List.drop_eq_getElem_cons h];rfl
theorem aiP(i:Nat)(p:dy):(iw i p).length<=1:=by unfold iw;split<;>simp
theorem VK(m:Model):∀(l:List dy) (i:Nat),(iW m l i).length<=5*l.length
 | [],_=>by simp[iW]
 | p :: r,i=>by
  have:=VK m r (i+1)
  have:=CF m p
  have:=aiP i p
  simp only[iW,List.length_append,List.length_cons,iZ,List.length_map,List.length_range];omega
theorem uM(m:Model):(insts m).length<=5*m.procs.length:=VK m _ _
structure c7.of(m:Model)(x:c7):Prop where
 bf:0<=x.proc
 ad:x.proc<m.procs.length
 elem:0<=x.elem/\x.elem<=4
theorem aiO{m:Model}{i:Nat}(ad:i<m.procs.length){n:Nat}(aE:n<=4):∀x∈iZ i n,x.of m:=fun x ar=>by
 unfold iZ at ar;obtain⟨k,hk,rfl⟩:=List.mem_map.1 ar
 have:=List.mem_range.1 hk
 exact⟨by simp,by simpa using ad,by constructor<;>simp<;>omega⟩
theorem aiQ{m:Model}{i:Nat}(ad:i<m.procs.length){p:dy}:∀x∈iw i p,x.of m:=fun x ar=>by
 unfold iw at ar;split at ar
 .rw[List.mem_singleton] at ar;subst ar;exact⟨by simp,by simpa using ad,by simp⟩
 .cases ar
theorem VM{m:Model}:∀(l:List dy) (i:Nat),i+l.length<=m.procs.length->∀x∈iW m l i,x.of m
 | [],_,_,x,ar=>by simp[iW] at ar
 | p :: r,i,h,x,ar=>by
  simp only[iW,List.mem_append] at ar;simp only[List.length_cons] at h;rcases ar with (ar | ar) | ar
  .exact aiQ (by omega) x ar
  .exact aiO (by omega) (CF m p) x ar
  .exact VM r (i+1) (by omega) x ar
theorem r2{m:Model}:∀x∈insts m,x.of m:=VM _ _ (by simp)
def q8(m:Model)(x:c7):Nat:=match nth m.procs x.proc with | some p=>p.cH.length | none=>0
def refsOf(i:Int)(n:Nat):List Ref:=(List.range n).map fun(k:Nat)=>(⟨i,(k:Int)⟩:Ref)
theorem XJ(i:Int)(n:Nat):refsOf i (n+1)=refsOf i n++[⟨i,(n:Int)⟩]:=by unfold refsOf;rw[List.range_succ,List.map_append];rfl
def oI(m:Model):List c7->Nat->List Ref
 | [],_=>[]
 | x :: r,i=>refsOf i (q8 m x)++oI m r (i+1)
def refs(m:Model):List Ref:=oI m (insts m) 0
theorem ajW{m:Model}{l:List c7}{k:Nat}(h:k<l.length):oI m (l.drop k) k=refsOf k (q8 m l[k])++oI m (l.drop (k+1)) (k+1):=by
 rw[List.drop_eq_getElem_cons h];rfl
def lP(m:Model)(s:Int×c7×List Ref)(x:c7):Int×c7×List Ref:=((if x≠s.2.1 then s.1+1 else s.1),x,s.2.2++refsOf (if x≠s.2.1 then s.1+1 else s.1) (q8 m x))
structure ru where
 c3:Int
 part:Int
 item:Int
 sub:Int
deriving DecidableEq
def sO:ru:=⟨0,0,0,0⟩
abbrev EX(m:Model):List ByteArray:=m.scalars.map (·.name)
abbrev yN(m:Model)(i:Nat):List ByteArray:=(m.vars.take i).map (·.name)
abbrev yM(m:Model)(i:Nat):List ByteArray:=(m.aL.take i).map (·.name)
abbrev wQ(m:Model)(i:Nat):List ByteArray:=(m.procs.take i).map (·.name)
abbrev M1(m:Model)(i:Nat):List ByteArray:=(m.props.take i).map (·.name)
abbrev q6(m:Model)(i:Nat):List ByteArray:=EX m++yN m i
abbrev mG(m:Model)(i:Nat):List ByteArray:=q6 m m.vars.length++yM m i
abbrev iv(m:Model)(i:Nat):List ByteArray:=mG m m.aL.length++wQ m i
abbrev q5(m:Model)(i:Nat):List ByteArray:=iv m m.procs.length++M1 m i
def nu(m:Model):Nat->Int:=err 12 (nameAt (·.name) m.vars) (oL m.vars m.scalars)
def mY(m:Model):Nat->Int:=err 4 (nameAt (·.name) m.aL) (oo m.aL m.scalars)
def iT(m:Model)(i:Nat):Int:=if nu m i≠0 then nu m i else if nameAt (·.name) m.vars i∈q6 m i then 7 else 0
def jU(m:Model)(i:Nat):Int:=if mY m i≠0 then mY m i else if nameAt (·.name) m.aL i∈mG m i then 7 else 0
def pX(m:Model)(p:dy)(k:Nat):Int:=if nameAt (·.name) p.vars k∈iv m m.procs.length then 7 else 0
def hX(m:Model)(i:Nat):Int×Int :=
 match m.procs[i]? with
 | none=>(0,0)
 | some p=>if 6<=i then (11,0)
  else if (ho p (gM m i)).2.2≠0 then ((ho p (gM m i)).2.2,16*(ho p (gM m i)).1+(ho p (gM m i)).2.1)
  else if p.name∈iv m i then (7,0)
  else if (first p.vars.length (pX m p)).2≠0 then (7,16+(first p.vars.length (pX m p)).1)
  else (0,0)
def ks(m:Model)(p:dy):Int:=if p.over=0 then 1 else size p.over m.scalars
def h8(l:List Int):Int:=l.foldl (· + ·) 0
def pT(c:dr):Int:=1+min (max c.cap 0) 4
def pieces(m:Model):Int×Int×Int :=
 (h8 (m.procs.map (ks m)),h8 (m.procs.map fun p=>ks m p*p.cH.length),
  h8 (m.vars.map (fun v=>cells v m.scalars))+h8 (m.aL.map pT)+h8 (m.procs.map fun p=>ks m p*(1+p.vars.length)))
def mn(m:Model)(i:Nat):Int :=
 match m.props[i]? with
 | none=>0
 | some p=>if 8<=i then 11 else if isName p.name=false then 6 else if p.name∈q5 m i then 7
  else if (kind p.expr (eR m)).2≠0 then (kind p.expr (eR m)).2 else if (kind p.expr (eR m)).1≠1 then 9 else 0
def data(m:Model):ru :=
 if (scalars m.scalars).2≠0 then ⟨(scalars m.scalars).2,1,(scalars m.scalars).1,0⟩
 else if (first m.vars.length (iT m)).2≠0 then ⟨(first m.vars.length (iT m)).2,2,(first m.vars.length (iT m)).1,0⟩
 else if (first m.aL.length (jU m)).2≠0 then ⟨(first m.aL.length (jU m)).2,3,(first m.aL.length (jU m)).1,0⟩
 else sO
def lO(m:Model):ru :=
 if (first m.procs.length fun i=>(hX m i).1).2≠0 then ⟨(first m.procs.length fun i=>(hX m i).1).2,4,(first m.procs.length fun i=>(hX m i).1).1,(hX m (first m.procs.length fun i=>(hX m i).1).1.toNat).2⟩
 else if 12<(pieces m).1\/64<(pieces m).2.2 then ⟨11,4,m.procs.length,0⟩ else sO
def oF(m:Model):ru:=if (first m.props.length (mn m)).2≠0 then ⟨(first m.props.length (mn m)).2,5,(first m.props.length (mn m)).1,0⟩ else sO
def check(m:Model):ru:=if (data m).c3≠0 then data m else if (lO m).c3≠0 then lO m else oF m
theorem A7{α:Type}{f:α->ByteArray}{l:List α}{i:Nat}(h:i<l.length):nameAt f l i=f l[i]:=by
 unfold nameAt;rw[List.getElem?_eq_getElem h];rfl
theorem ahY{p:Nat->Prop}(h:∃j,p j):∃i,p i/\∀k,p k->i<=k:=by
 obtain⟨j,aR⟩:=h
 induction j using Nat.strongRecOn with
 | _ j e1 =>
  by_cases ar:∃k,k<j/\p k
  .obtain⟨k,hk,aN⟩:=ar;exact e1 k hk aN
  .exact⟨j,aR,fun k aN=>Nat.le_of_not_lt fun cv=>ar ⟨k,cv,aN⟩⟩
theorem ud{n:Nat}{e:Nat->Int}(h:(first n e).2=0):∀j,j<n->e j=0:=by
 intro j aR;apply Classical.byContradiction;intro aE;obtain⟨i,ad,h1⟩:=ahY (p:=fun j=>j<n/\e j≠0) ⟨j,aR,aE⟩;rw[iF ad.1 (fun k hk=>by
  apply Classical.byContradiction;intro cI;exact absurd (h1 k ⟨by omega,cI⟩) (by omega)) ad.2] at h
 exact ad.2 h
theorem Tg{n:Nat}{e:Nat->Int}(h:(first n e).2≠0):∃i,i<n/\(first n e).1=(i:Int)/\(first n e).2=e i:=by
 unfold first at h ⊢
 split at h
 .rename_i i ad;rw[List.find?_range_eq_some] at ad;exact⟨i,by simpa using ad.2.1,rfl,rfl⟩
 .exact absurd rfl h
theorem SZ{α:Type}{f:α->ByteArray}{l:List α}{fs:Int}{mo mo':Nat->Int}{k i:Nat}(ad:i<k)(hm:mo i=mo' i):err fs (nameAt f (l.take k)) mo i=err fs (nameAt f l) mo' i:=by
 have aE:∀j,j<k->nameAt f (l.take k) j=nameAt f l j:=fun j aR=>by unfold nameAt;rw[List.getElem?_take_of_lt aR]
 unfold err;rw[aE i ad,hm];have he:(∃j,j<i/\nameAt f (l.take k) j=nameAt f l i)↔(∃j,j<i/\nameAt f l j=nameAt f l i) :=
  ⟨fun⟨j,h1,U⟩=>⟨j,h1,by rw[<-aE j (by omega)];exact U⟩,fun⟨j,h1,U⟩=>⟨j,h1,by rw[aE j (by omega)];exact U⟩⟩
 by_cases ar:∃j,j<i/\nameAt f l j=nameAt f l i
 .rw[if_pos (he.2 ar),if_pos ar]
 .rw[if_neg (fun h=>ar (he.1 h)),if_neg ar]
theorem al3{m:Model}{i:Nat}(ad:i<m.vars.length)(bN:∀j,j<i->nu m j=0):(vars (m.vars.take (i+1)) m.scalars 12).2=nu m i:=by
 unfold vars;have aS:(m.vars.take (i+1)).length=i+1:=by simp;omega
 rw[aS,show(max 12 0:Int)=12 from rfl,Tf (e':=nu m) (fun j aR=>(SZ (mo':=oL m.vars m.scalars) aR (by unfold oL;rw[List.getElem?_take_of_lt aR]):_=nu m j))];by_cases ak:nu m i=0
 .rw[ot fun j aR=>by
   by_cases gY:j=i
   .subst gY;exact ak
   .exact bN j (by omega),ak]
 .rw[iF (by omega) bN ak]
theorem abn{m:Model}{i:Nat}(ad:i<m.aL.length)(bN:∀j,j<i->mY m j=0):(aL (m.aL.take (i+1)) m.scalars).2=mY m i:=by
 unfold aL;have aS:(m.aL.take (i+1)).length=i+1:=by simp;omega
 rw[aS,Tf (e':=mY m) (fun j aR=>(SZ (mo':=oo m.aL m.scalars) aR (by unfold oo;rw[List.getElem?_take_of_lt aR]):_=mY m j))];by_cases ak:mY m i=0
 .rw[ot fun j aR=>by
   by_cases gY:j=i
   .subst gY;exact ak
   .exact bN j (by omega),ak]
 .rw[iF (by omega) bN ak]
theorem al2(m:Model):vars m.vars m.scalars 12=first m.vars.length (nu m):=rfl
theorem abl(m:Model):aL m.aL m.scalars=first m.aL.length (mY m):=rfl
theorem I5{m:Model}{i:Nat}(h:iT m i=0):nu m i=0:=by
 apply Classical.byContradiction;intro aE;unfold iT at h;rw[if_pos aE] at h;exact aE h
theorem GC{m:Model}{i:Nat}(h:jU m i=0):mY m i=0:=by
 apply Classical.byContradiction;intro aE;unfold jU at h;rw[if_pos aE] at h;exact aE h
theorem S0{m:Model}{i:Nat}(h:iT m i=0):i<12:=by
 have h:=I5 h;unfold nu err at h;split at h
 .cases h
 .omega
theorem ab9{m:Model}{i:Nat}(h:jU m i=0):i<4:=by
 have h:=GC h;unfold mY err at h;split at h
 .cases h
 .omega
theorem GS{m:Model}{i:Nat}(ad:i<m.procs.length)(h:(hX m i).1=0):i<6:=by
 unfold hX at h;rw[List.getElem?_eq_getElem ad] at h;simp only at h;split at h
 .cases h
 .omega
theorem aco{m:Model}{i:Nat}(ad:i<m.props.length)(h:mn m i=0):i<8:=by
 unfold mn at h;rw[List.getElem?_eq_getElem ad] at h;simp only at h;split at h
 .cases h
 .omega
theorem Yb{m:Model}(h:(scalars m.scalars).2=0):m.scalars.length<=2:=by
 unfold scalars at h
 have:=ud h
 apply Classical.byContradiction;intro aE;have U:=this 2 (by omega);unfold err at U;rw[if_pos (by omega)] at U;cases U
theorem size_le(k:Int)(s:List Scalar):0<=size k s/\size k s<=4:=by
 unfold size;split
 .split<;>omega
 .omega
theorem tN(v:Var)(s:List Scalar):0<=cells v s/\cells v s<=4:=by
 have:=size_le v.over s
 unfold cells;split<;>omega
theorem E1(m:Model)(p:dy):0<=ks m p/\ks m p<=4:=by
 have:=size_le p.over m.scalars
 unfold ks;split<;>omega
theorem J1(c:dr):1<=pT c/\pT c<=5:=by unfold pT;omega
theorem alr(l:List Int)(x:Int):h8 (l++[x])=h8 l+x:=by unfold h8;simp
theorem Fv{α:Type}(f:α->Int)(l:List α){k:Nat}(h:k<l.length):h8 ((l.take (k+1)).map f)=h8 ((l.take k).map f)+f l[k]:=by
 rw[List.take_succ_eq_append_getElem h,List.map_append,List.map_cons,List.map_nil,alr]
theorem Fu{α:Type}(f:α->Int)(B:Int)(ji:0<=B):∀(l:List α),(∀x∈l,0<=f x/\f x<=B)->0<=h8 (l.map f)/\h8 (l.map f)<=B*l.length:=by
 have key:∀(l:List α) (a:Int),(∀x∈l,0<=f x/\f x<=B)->a<=(l.map f).foldl (· + ·) a/\(l.map f).foldl (· + ·) a<=a+B*l.length:=by
  intro l
  induction l with
  | nil=>intro a _;simp
  | cons x r e1 =>
   intro a h;have ar:=h x (by simp);obtain⟨h1,U⟩:=e1 (a+f x) fun y b2=>h y (by simp[b2]);simp only[List.map_cons,List.foldl_cons,List.length_cons];rw[Int.natCast_succ,Int.mul_add];omega
 intro l h;obtain⟨h1,U⟩:=key l 0 h;unfold h8;omega
end o
namespace o
theorem Sr{m:Model}(h:(scalars m.scalars).2≠0):data m=⟨(scalars m.scalars).2,1,(scalars m.scalars).1,0⟩:=by unfold data;rw[if_pos h]
theorem GN{m:Model}(ay:(scalars m.scalars).2=0){i:Nat}(ad:i<m.vars.length)(bN:∀j,j<i->iT m j=0)(h:iT m i≠0):data m=⟨iT m i,2,i,0⟩:=by
 unfold data;rw[if_neg (by simpa using ay),iF ad bN h,if_pos h]
theorem GL{m:Model}(ay:(scalars m.scalars).2=0)(aT:∀j,j<m.vars.length->iT m j=0){i:Nat}(ad:i<m.aL.length)(bN:∀j,j<i->jU m j=0)(h:jU m i≠0):data m=⟨jU m i,3,i,0⟩:=by
 unfold data;rw[if_neg (by simpa using ay),ot aT,if_neg (by simp),iF ad bN h,if_pos h]
theorem Sp{m:Model}(ay:(scalars m.scalars).2=0)(aT:∀j,j<m.vars.length->iT m j=0)(aw:∀j,j<m.aL.length->jU m j=0):data m=sO:=by
 unfold data;rw[if_neg (by simpa using ay),ot aT,if_neg (by simp),ot aw,if_neg (by simp)]
theorem Sq{m:Model}(h:(data m).c3=0):(scalars m.scalars).2=0/\(∀j,j<m.vars.length->iT m j=0)/\(∀j,j<m.aL.length->jU m j=0):=by
 unfold data at h;by_cases h1:(scalars m.scalars).2=0
 .rw[if_neg (by simpa using h1)] at h;by_cases U:(first m.vars.length (iT m)).2=0
  .rw[if_neg (by simpa using U)] at h;by_cases ag:(first m.aL.length (jU m)).2=0
   .exact⟨h1,ud U,ud ag⟩
   .rw[if_pos ag] at h;exact absurd h ag
  .rw[if_pos U] at h;exact absurd h U
 .rw[if_pos h1] at h;exact absurd h h1
theorem GM{m:Model}(h:(data m).c3=0):m.scalars.length<=2/\m.vars.length<=12/\m.aL.length<=4:=by
 obtain⟨h1,U,ag⟩:=Sq h;refine⟨Yb h1,?_,?_⟩
 .apply Classical.byContradiction;intro aE
  have:=S0 (U 12 (by omega))
  omega
 .apply Classical.byContradiction;intro aE
  have:=ab9 (ag 4 (by omega))
  omega
theorem E3{m:Model}{i:Nat}(ad:i<m.procs.length)(bN:∀j,j<i->(hX m j).1=0)(h:(hX m i).1≠0):lO m=⟨(hX m i).1,4,i,(hX m i).2⟩:=by
 unfold lO;rw[iF (e:=fun i=>(hX m i).1) ad bN h];simp only;rw[if_pos h];simp
theorem Nq{m:Model}(bN:∀j,j<m.procs.length->(hX m j).1=0):lO m=if 12<(pieces m).1\/64<(pieces m).2.2 then ⟨11,4,m.procs.length,0⟩ else sO:=by
 unfold lO;rw[ot (e:=fun i=>(hX m i).1) bN,if_neg (by simp)]
theorem Iu{m:Model}(h:(lO m).c3=0):(∀j,j<m.procs.length->(hX m j).1=0)/\(pieces m).1<=12/\(pieces m).2.2<=64:=by
 by_cases h1:(first m.procs.length fun i=>(hX m i).1).2=0
 .have bN:=ud h1;rw[Nq bN] at h;refine⟨bN,?_⟩;by_cases U:12<(pieces m).1\/64<(pieces m).2.2
  .rw[if_pos U] at h;cases h
  .omega
 .unfold lO at h;rw[if_pos h1] at h;exact absurd h h1
theorem Xd{m:Model}{i:Nat}(ad:i<m.props.length)(bN:∀j,j<i->mn m j=0)(h:mn m i≠0):oF m=⟨mn m i,5,i,0⟩:=by
 unfold oF;rw[iF ad bN h,if_pos h]
theorem Nr{m:Model}(bN:∀j,j<m.props.length->mn m j=0):oF m=sO:=by
 unfold oF;rw[ot bN,if_neg (by simp)]
theorem Iv{m:Model}(h:(oF m).c3=0):∀j,j<m.props.length->mn m j=0:=by
 by_cases h1:(first m.props.length (mn m)).2=0
 .exact ud h1
 .unfold oF at h;rw[if_pos h1] at h;exact absurd h h1
theorem Bw{α:Type}(f:α->ByteArray)(l:List α){k:Nat}(h:k<l.length):(l.take (k+1)).map f=(l.take k).map f++[f l[k]]:=by
 rw[List.take_succ_eq_append_getElem h,List.map_append];rfl
end o
namespace o
theorem Kx{m:Model}{i:Nat}(ad:i<m.procs.length):hX m i=if 6<=i then (11,0)
  else if (ho m.procs[i] (gM m i)).2.2≠0 then ((ho m.procs[i] (gM m i)).2.2,16*(ho m.procs[i] (gM m i)).1+(ho m.procs[i] (gM m i)).2.1)
  else if m.procs[i].name∈iv m i then (7,0)
  else if (first m.procs[i].vars.length (pX m m.procs[i])).2≠0 then (7,16+(first m.procs[i].vars.length (pX m m.procs[i])).1)
  else (0,0):=by
 unfold hX;rw[List.getElem?_eq_getElem ad]
theorem CK{m:Model}{i:Nat}(ad:i<m.props.length):mn m i=if 8<=i then 11 else if isName m.props[i].name=false then 6 else if m.props[i].name∈q5 m i then 7
  else if (kind m.props[i].expr (eR m)).2≠0 then (kind m.props[i].expr (eR m)).2 else if (kind m.props[i].expr (eR m)).1≠1 then 9 else 0:=by
 unfold mn;rw[List.getElem?_eq_getElem ad]
theorem ac3(n:Nat)(e:Nat->Int):0<=(first n e).1/\(first n e).1<=n:=by
 unfold first
 split
 .rename_i i ad;rw[List.find?_range_eq_some] at ad
  have:=ad.2.1
  simp at this;constructor<;>simp<;>omega
 .simp
theorem WA(s:Scope):∀(l:List Var) (i:Nat),0<=(pt s l i).1/\(pt s l i).1<=i+l.length
 | [],i=>by first | (simp[pt];done) | (simp[pt];omega)
 | v :: r,i=>by
  have:=WA s r (i+1)
  unfold pt;split
  .simp;omega
  .split
   .simp;omega
   .simp only[List.length_cons];omega
theorem ai3(p:dy)(s:Scope):0<=(kI p s).1/\(kI p s).1<=p.vars.length:=by
 unfold kI;split
 .exact ac3 _ _
 .have:=WA s p.vars 0;omega
theorem RG(s:Scope):∀(l:List Act) (i:Nat) (t:Bool),0<=(kd s l i t).1/\(kd s l i t).1<=2+i+l.length
 | [],i,t=>by first | (simp[kd];done) | (simp[kd];omega)
 | a :: r,i,t=>by
  have:=RG s r (i+1) (t||gO a)
  unfold kd;split
  .simp;omega
  .split
   .simp;omega
   .simp only[List.length_cons];omega
theorem abx(c:dI)(cw:Int)(s:Scope):0<=(iC c cw s).1/\(iC c cw s).1<=2+c.b6.length:=by
 unfold iC;split
 .simp;omega
 .split
  .simp;omega
  .have:=RG s c.b6 0 false;omega
theorem Sd(own:Scope)(cw:Int)(all:List dI)(B:Nat):∀(l:List dI) (i:Nat),(∀c∈l,c.b6.length<=B)->0<=(kV own cw all l i).1/\(kV own cw all l i).1<=2+i+l.length/\0<=(kV own cw all l i).2.1/\(kV own cw all l i).2.1<=2+B
 | [],i,_=>by first | (simp[kV];done) | (simp[kV];omega)
 | c :: r,i,h=>by
  have h1:=Sd own cw all B r (i+1) fun x ar=>h x (by simp[ar]);have U:=abx c cw own;have ag:=h c (by simp);unfold kV;split
  .simp only[List.length_cons];omega
  .split
   .simp only[List.length_cons];omega
   .simp only[List.length_cons];omega
theorem Xb(p:dy)(s:Scope)(B:Nat)(h:∀c∈p.cH,c.b6.length<=B):0<=(ho p s).1/\(ho p s).1<=2+p.cH.length/\0<=(ho p s).2.1/\(ho p s).2.1<=2+B+p.vars.length:=by
 unfold ho;split
 .simp;omega
 .split
  .have:=ai3 p s
   simp only;omega
  .have:=Sd (inner p s) p.cw p.cH B p.cH 0 h
   omega
theorem No{p:dy}{s:Scope}(h:(ho p s).2.2=0):p.vars.length<=4/\p.cH.length<=12/\whole p s=0/\(kI p s).2=0/\(kV (inner p s) p.cw p.cH p.cH 0).2.2=0:=by
 unfold ho at h;by_cases h1:whole p s=0
 .rw[if_neg (by simpa using h1)] at h;by_cases U:(kI p s).2=0
  .rw[if_neg (by simpa using U)] at h;refine⟨?_,?_,h1,U,h⟩
   .have ag:(vars p.vars s.scalars 4).2=0:=by
     apply Classical.byContradiction;intro aE;unfold kI at U;rw[if_pos aE] at U;exact aE U
    apply Classical.byContradiction;intro aE;have aJ:=ud ag 4 (by omega);unfold err at aJ;rw[if_pos (by decide)] at aJ;cases aJ
   .apply Classical.byContradiction;intro aE;unfold whole at h1;split at h1
    .cases h1
    .split at h1
     .cases h1
     .split at h1
      .cases h1
      .rw[if_pos (by omega)] at h1;cases h1
  .rw[if_pos U] at h;exact absurd h U
 .rw[if_pos h1] at h;exact absurd h h1
theorem zU{m:Model}{i:Nat}(ad:i<m.procs.length)(h:(hX m i).1=0):i<6/\(ho m.procs[i] (gM m i)).2.2=0/\¬m.procs[i].name∈iv m i/\(first m.procs[i].vars.length (pX m m.procs[i])).2=0:=by
 rw[Kx ad] at h;split at h
 .cases h
 .split at h
  .rename_i h1 U;exact absurd h U
  .split at h
   .cases h
   .split at h
    .cases h
    .rename_i h1 U ag aJ;exact⟨by omega,by simpa using U,ag,by simpa using aJ⟩
end o
end
section
namespace o
open Go
structure dG where
 bf:Int
 ad:Int
 kind:Int
structure Cell where
 sort:Int
 vn:Int
 place:Int
 bf:Int
 ad:Int
 kind:Int
structure vy where
 vars:List Int
 aL:List Int
 insts:List Int
 cells:Int
 bf:List Int
 ad:List Int
def kindOf(k:Int):Int:=if k=0 then 0 else k+1
def fb(fI bf ad:Int)(s:List Scalar):dG:=if fI=0 then ⟨bf,ad,0⟩ else ⟨0,size fI s,fI+1⟩
theorem Ce(v:Var)(s:List Scalar):fb v.scalar v.bf v.ad s=⟨(bounds v s).1,(bounds v s).2,kindOf v.scalar⟩:=by
 unfold fb bounds kindOf;by_cases h:v.scalar=0
 .rw[if_pos h,if_pos h,if_pos h]
 .rw[if_neg h,if_neg h,if_neg h]
def y2(s:List Scalar)(v:Var):List dG:=List.replicate (cells v s).toNat (fb v.scalar v.bf v.ad s)
def kf(s:List Scalar)(c:dr):dG:=fb c.scalar (min c.bf 0) (max c.ad 0) s
def mj(s:List Scalar)(c:dr):List dG:=⟨0,c.cap,0⟩ :: List.replicate c.cap.toNat (kf s c)
def tp(s:List Scalar)(p:dy):List dG:=⟨0,p.cw - 1,0⟩ :: p.vars.map fun v=>fb v.scalar v.bf v.ad s
def lJ(m:Model)(x:c7):List dG:=match nth m.procs x.proc with | some p=>tp m.scalars p | none=>[]
def fh(sort vn:Int):List dG->Nat->List Cell
 | [],_=>[]
 | b :: r,k=>⟨sort,vn,k,b.bf,b.ad,b.kind⟩ :: fh sort vn r (k+1)
def cellsOf(sort:Int):List (List dG)->Nat->List Cell
 | [],_=>[]
 | l :: r,i=>fh sort i l 0++cellsOf sort r (i+1)
def total(ls:List (List dG)):Nat:=(ls.map List.length).sum
def hq(n:Nat):List (List dG)->List Int
 | []=>[]
 | l :: r=>(n:Int) :: hq (n+l.length) r
def cV(m:Model):List (List dG):=m.vars.map (y2 m.scalars)
def dw(m:Model):List (List dG):=m.aL.map (mj m.scalars)
def fc(m:Model):List (List dG):=(insts m).map (lJ m)
def cb(m:Model):List Cell:=cellsOf 1 (cV m) 0++cellsOf 2 (dw m) 0++cellsOf 3 (fc m) 0
def AG(V C eo:List Int)(cs:List Cell):vy:=⟨V,C,eo,cs.length,cs.map (·.bf),cs.map (·.ad)⟩
def layout(m:Model):vy:=AG (hq 0 (cV m)) (hq (total (cV m)) (dw m)) (hq (total (cV m)+total (dw m)) (fc m)) (cb m)
def M8:vy:=⟨[],[],[],0,[],[]⟩
def lay(m:Model):vy:=if (check m).c3=0 then layout m else M8
theorem th(s w:Int):∀(l:List dG) (k:Nat),(fh s w l k).length=l.length
 | [],_=>rfl
 | _ :: r,k=>by simp[fh,th s w r]
theorem MP(s w:Int)(b:dG):∀(l:List dG) (k:Nat),fh s w (l++[b]) k=fh s w l k++[⟨s,w,(k+l.length:Nat),b.bf,b.ad,b.kind⟩]
 | [],k=>by simp[fh]
 | x :: r,k=>by
  simp only[List.cons_append,fh,MP s w b r,List.length_cons];rw[show k+1+r.length=k+(r.length+1) from by omega]
theorem aho{s w:Int}{l:List dG}{k:Nat}(h:k<l.length):fh s w (l.take (k+1)) 0=fh s w (l.take k) 0++[⟨s,w,k,l[k].bf,l[k].ad,l[k].kind⟩]:=by
 rw[List.take_succ_eq_append_getElem h,MP];simp[List.length_take,Nat.min_eq_left (Nat.le_of_lt h)]
theorem ke(s:Int):∀(ls:List (List dG)) (i:Nat),(cellsOf s ls i).length=total ls
 | [],_=>rfl
 | l :: r,i=>by simp[cellsOf,th,ke s r,total]
theorem xL(s:Int)(x:List dG):∀(ls:List (List dG)) (i:Nat),cellsOf s (ls++[x]) i=cellsOf s ls i++fh s (i+ls.length:Nat) x 0
 | [],i=>by simp[cellsOf]
 | l :: r,i=>by
  simp only[List.cons_append,cellsOf,xL s x r,List.length_cons,List.append_assoc];rw[show i+1+r.length=i+(r.length+1) from by omega]
theorem alE(ls:List (List dG))(x:List dG):total (ls++[x])=total ls+x.length:=by simp[total]
theorem IU(x:List dG):∀(ls:List (List dG)) (n:Nat),hq n (ls++[x])=hq n ls++[((n+total ls:Nat):Int)]
 | [],n=>by simp[hq,total]
 | l :: r,n=>by
  simp only[List.cons_append,hq,IU x r,total,List.map_cons,List.sum_cons];rw[show n+l.length+(r.map List.length).sum=n+(l.length+(r.map List.length).sum) from by omega]
theorem tw(n:Nat):∀(ls:List (List dG)),(hq n ls).length=ls.length:=by
 intro ls
 induction ls generalizing n with
 | nil=>rfl
 | cons l r e1=>simp[hq,e1]
theorem Ec(m:Model):(cb m).length=total (cV m)+total (dw m)+total (fc m):=by simp[cb,ke,Nat.add_assoc]
def ih(s:Int):List Cell->Nat->List Int
 | [],_=>[]
 | x :: r,i=>(if x.place=0/\x.sort=s then [(i:Int)] else [])++ih s r (i+1)
theorem CT(s:Int):∀(a b:List Cell) (i:Nat),ih s (a++b) i=ih s a i++ih s b (i+a.length)
 | [],b,i=>by simp[ih]
 | x :: r,b,i=>by
  simp only[List.cons_append,ih,CT s r b,List.append_assoc,List.length_cons];rw[show i+1+r.length=i+(r.length+1) from by omega]
theorem Ti(s hP w:Int):∀(l:List dG) (k i:Nat),0<k->ih s (fh hP w l k) i=[]
 | [],_,_,_=>rfl
 | b :: r,k,i,h=>by
  simp only[fh,ih];rw[if_neg (by simp;omega),Ti s hP w r (k+1) (i+1) (by omega)];rfl
theorem GW(s:Int):∀(ls:List (List dG)) (i n:Nat),(∀l∈ls,l≠[])->ih s (cellsOf s ls i) n=hq n ls
 | [],_,_,_=>rfl
 | [] :: r,i,n,h=>absurd rfl (h [] (by simp))
 | (b :: l) :: r,i,n,h=>by
  simp only[cellsOf,fh,List.cons_append,ih,CT];rw[if_pos (by simp),Ti s s i l 1 (n+1) (by omega),GW s r (i+1) _ (fun l aS=>h l (by simp[aS]))];simp only[List.nil_append,hq,th,List.singleton_append,List.length_cons];rw[show n+1+l.length=n+(l.length+1) from by omega]
theorem xW(s hP:Int)(ay:s≠hP):∀(ls:List (List dG)) (i n:Nat),ih s (cellsOf hP ls i) n=[]
 | [],_,_=>rfl
 | l :: r,i,n=>by
  have key:∀(l:List dG) (k n:Nat),ih s (fh hP i l k) n=[]:=by
   intro l
   induction l with
   | nil=>intro k n;rfl
   | cons b r e1 =>
    intro k n;simp only[fh,ih];rw[if_neg (by simp;exact fun _=>Ne.symm ay),e1];rfl
  simp only[cellsOf,CT,key,xW s hP ay r,List.append_nil]
end o
end