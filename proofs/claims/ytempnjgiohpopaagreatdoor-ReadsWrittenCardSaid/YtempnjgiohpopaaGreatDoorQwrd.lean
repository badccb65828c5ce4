/- Texts joined: Lite12 LexP DeclP Rep Rep2 Lite13 Lite14 Lite15 Lite16 LiteS LiteN LiteO ExprP CmdP ProcP ModP LayP. -/
import Derived.Test.YtempnjgiohpopaaGreatDoorQwrc
import Derived.Lib.RuneCount
import Derived.Lib.TrimU
import Derived.Laws.StructEq
import Derived.Laws.Cover3
import Derived.Maps.AppendAt
import Derived.Laws.Pointers
set_option linter.all false
set_option maxRecDepth 4000
section
namespace bt
open Go Go.RowKit
structure tz(p:Prop):Prop where out:p
theorem aG{A B:Prop}(k:B)(h:tz B→A:=by
 intro q
 (repeat' first
 | assumption
 | exact Ext.refl _
 | refine Ext.trans ?_ (by assumption)
 | refine K.wrap (by omega) ?_
 | refine K.rB (by assumption) ?_ rfl ?_
 | refine K.pC (by assumption) ?_ rfl ?_
 | refine K.sU (by assumption) ?_ (by omega) rfl ?_
 | refine K.sV (by assumption) ?_ (by omega) rfl ?_
 | refine K.sT (by assumption) ?_ (by omega) rfl ?_
 | refine K.sN (by omega) ?_
 | refine K.r9 (by first | assumption | omega) ?_
 | refine K.r8 (by first | assumption | omega) ?_
 | refine K.qe (by assumption) ?_
 | refine K.qd (by assumption) ?_
 | simp -dsimp only[cI,cu,Nat.reduceAdd,Nat.reduceEqDiff,reduceIte,reduceCtorEq,cS])
 exact q.out):A:=h ⟨k⟩
theorem cV{F A B:Prop}(f:F)(k:B)(h:F→tz B→A:=by
 intro f q
 (repeat' first
 | assumption
 | exact Ext.refl _
 | refine Ext.trans ?_ (by assumption)
 | refine K.wrap (by omega) ?_
 | refine K.rB (by assumption) ?_ rfl ?_
 | refine K.pC (by assumption) ?_ rfl ?_
 | refine K.sU (by assumption) ?_ (by omega) rfl ?_
 | refine K.sV (by assumption) ?_ (by omega) rfl ?_
 | refine K.sT (by assumption) ?_ (by omega) rfl ?_
 | refine K.sN (by omega) ?_
 | refine K.r9 (by first | assumption | omega) ?_
 | refine K.r8 (by first | assumption | omega) ?_
 | refine K.qe (by assumption) ?_
 | refine K.qd (by assumption) ?_
 | simp -dsimp only[cI,cu,Nat.reduceAdd,Nat.reduceEqDiff,reduceIte,reduceCtorEq,cS,f])
 exact q.out):A:=h f ⟨k⟩
theorem ov{A B:Prop}(k:B)(h:tz B→A:=by
 intro q
 (repeat' first
 | assumption
 | exact Ext.refl _
 | refine Ext.trans ?_ (by assumption)
 | refine K.wrap (by omega) ?_
 | refine K.rB (by assumption) ?_ rfl ?_
 | refine K.pC (by assumption) ?_ rfl ?_
 | refine K.sU (by assumption) ?_ (by omega) rfl ?_
 | refine K.sV (by assumption) ?_ (by omega) rfl ?_
 | refine K.sT (by assumption) ?_ (by omega) rfl ?_
 | refine K.sN (by omega) ?_
 | refine K.r9 (by first | assumption | omega) ?_
 | refine K.r8 (by first | assumption | omega) ?_
 | refine K.qe (by assumption) ?_
 | refine K.qd (by assumption) ?_
 | simp -dsimp only[cI,Nat.reduceAdd,Nat.reduceEqDiff,reduceIte,reduceCtorEq,cS])
 exact q.out):A:=h ⟨k⟩
theorem b2{F A B:Prop}(f:F)(k:B)(h:F→tz B→A:=by
 intro f q;simp -dsimp only[cI,cu,Nat.reduceAdd,Nat.reduceEqDiff,reduceIte,reduceCtorEq,cS,f];exact q.out):A:=h f ⟨k⟩
def tg:List (Nat×Value)→Fr→Fr
 | [],S=>S
 | p :: r,S=>b5 (tg r S) p.1 p.2
theorem ti(S:Fr):tg [] S=S:=eq_of_heq (HEq.refl _)
theorem th(t:Nat)(v:Value)(r:List (Nat×Value))(S:Fr):tg ((t,v) :: r) S=b5 (tg r S) t v:=eq_of_heq (HEq.refl _)
def Has(S:Fr):List (Nat×Value)→Prop
 | []=>True
 | p :: r=>S p.1=p.2∧Has S r
theorem sm(S:Fr):Has S []=True:=propext Iff.rfl
theorem sl(S:Fr)(t:Nat)(v:Value)(r:List (Nat×Value)):Has S ((t,v) :: r)=(S t=v∧Has S r):=propext Iff.rfl
theorem Gb{S:Fr}:∀L,Has S L→tg L S=S
 | [],_=>rfl
 | p :: r,h=>by
  show b5 (tg r S) p.1 p.2=S;rw[Gb r h.2];exact h5 S _ _ h.1
def sP(S:Fr):List Nat→Fr→Fr
 | [],a1=>a1
 | t :: r,a1=>b5 (sP S r a1) t (S t)
theorem sR(S a1:Fr):sP S [] a1=a1:=eq_of_heq (HEq.refl _)
theorem sQ(S a1:Fr)(t:Nat)(r:List Nat):sP S (t :: r) a1=b5 (sP S r a1) t (S t):=eq_of_heq (HEq.refl _)
theorem FH{S a1:Fr}:∀cO:List Nat,(∀t∈cO,a1 t=S t)→sP S cO a1=a1
 | [],_=>rfl
 | t :: r,h=>by
  show b5 (sP S r a1) t (S t)=a1;rw[FH r fun u hu=>h u (by simp[hu])];exact h5 a1 _ _ (h t (by simp))
theorem bw{p:Prop}(h:p:=by first | trivial | rfl | exact⟨rfl,trivial⟩ | (simp -dsimp only[cI,ti,th,sR,sQ,sm,sl,Nat.reduceAdd,Nat.reduceEqDiff,reduceIte,and_self];done) | (simp -dsimp only[cI,ti,th,sR,sQ,sm,sl,Nat.reduceAdd,Nat.reduceEqDiff,reduceIte,and_self];exact⟨rfl,trivial⟩)):p:=h
theorem J8{ds cO:List Nat}(h:(cO.all fun t => !ds.contains t)=true):∀t∈cO,ds.contains t=false:=fun t aK=>by
 have:=List.all_eq_true.1 h t aK
 simpa using this
theorem acJ{p:Nat→Prop}:∀n,p n→∃m,p m∧∀k,p k→m≤k:=fun n=>by
 induction n using Nat.strongRecOn with
 | _ n gf =>
  intro h;by_cases hm:∃k,k<n∧p k
  ·obtain⟨k,hk,aO⟩:=hm;exact gf k hk aO
  ·exact⟨n,h,fun k hk=>Nat.le_of_not_lt fun ck=>hm ⟨k,ck,hk⟩⟩
noncomputable def least(p:Nat→Prop):Nat:=open Classical in if h:∃m,p m∧∀k,p k→m≤k then h.choose else 0
theorem Sv{p:Nat→Prop}(h:∃n,p n):p (least p)∧∀k,p k→least p≤k:=by
 obtain⟨n,aN⟩:=h;have hm:=acJ n aN;unfold least;rw[dif_pos hm];exact hm.choose_spec
section
variable{P:Program}{Q:dM→Fr→World→Prop}{S:Fr}{w:World}
theorem K.da{β:Type}{b:eS}{t}(i N:Nat)(cO:List Nat)(M:β→List (Nat×Value))(jJ:β)(iL:Nat→β→World→Prop)(IX:S i = .int .i64 0)(bd:Has S (M jJ))(aj:iL 0 jJ w)
  (bk:∀(k:Nat) x a1 w',k≤N→iL k x w' →
   dQ P b (hR (fun fe bY=>k<N∧fe i = .int .i64 ((k:Int)+1)∧∃xr,Has fe (M xr)∧iL (k+1) xr bY) Q ⟨⟩) (tg (M x) (b5 (sP S cO a1) i (.int .i64 k))) w' ⟨⟩)
  (bs:(cO.all fun t => !b.e4.contains t)=true:=by rfl):vj P b Q S w t:=by
 refine K.yn i N (fun k S w => ∃x,Has S (M x)∧iL k x w) IX ⟨jJ,bd,aj⟩ ?_;rintro k a1 w' ch hk ad ⟨x,A4,qi⟩;have h:=bk k x a1 w' hk qi;rw[FH cO fun t aK=>ch t (J8 bs t aK),h5 a1 i _ ad,Gb _ A4] at h;exact h
theorem K.hE{β:Type}{a b:eS}{t}(cO:List Nat)(M:β→List (Nat×Value))(N:β→World→Prop)(h1:dQ P a (hR (fun fe bY => ∃x,Has fe (M x)∧N x bY) Q ⟨⟩) S w ⟨⟩)
  (U:∀x a1 w',N x w'→dQ P b Q (tg (M x) (sP S cO a1)) w' ⟨⟩)(bs:(cO.all fun t => !a.e4.contains t)=true:=by rfl):dQ P (.seq a b) Q S w t:=by
 refine K.cut _ h1 ?_;rintro a1 w' ch ⟨x,bd,fQ⟩;have h:=U x a1 w' fQ;rw[FH cO fun t aK=>ch t (J8 bs t aK),Gb _ bd] at h;exact h
theorem K.Dt{β:Type}{b:eS}{t}(cO:List Nat)(M:β→List (Nat×Value))(jJ:β)(iL:β→World→Prop)(iK:β→Nat)(bd:Has S (M jJ))(aj:iL jJ w)
  (bk:∀x a1 w',iL x w' →
   dQ P b (hR (fun fe bY => ∃xr,Has fe (M xr)∧iL xr bY∧iK xr<iK x) Q ⟨⟩) (tg (M x) (sP S cO a1)) w' ⟨⟩)
  (bs:(cO.all fun t => !b.e4.contains t)=true:=by rfl):vj P b Q S w t:=by
 refine K.loop (fun S w => ∃x,Has S (M x)∧iL x w) (fun S w=>least fun n => ∃x,Has S (M x)∧iL x w∧iK x=n) ⟨jJ,bd,aj⟩ ?_;rintro a1 w' ch ⟨x,A4,qi⟩;obtain⟨⟨y,h1,U,ai⟩,aL⟩:=Sv (p:=fun n => ∃x,Has a1 (M x)∧iL x w'∧iK x=n) ⟨iK x,x,A4,qi,rfl⟩;have h:=bk y a1 w' U;rw[FH cO fun t aK=>ch t (J8 bs t aK),Gb _ h1] at h;unfold dQ hR at *;refine pP b _ _ a1 w' (fun e fe bY _ h=>?_) h
 match e,h with
 | .normal,⟨z,eO,gA,kS⟩ =>
  refine⟨⟨z,eO,gA⟩,?_⟩;have bn:=(Sv (p:=fun n => ∃x,Has fe (M x)∧iL x bY∧iK x=n) ⟨iK z,z,eO,gA,rfl⟩).2 (iK z) ⟨z,eO,gA,rfl⟩;show least _<least _;rw[←ai];omega
 | .exit _,h=>exact h
 | .ret,h=>exact h
 | .fC _,h=>exact h
end
end bt
end
section
namespace o
open Go
def letter(n:Int):Bool:=decide (97≤n∧n≤122∨65≤n∧n≤90)
def digit(n:Int):Bool:=decide (48≤n∧n≤57)
def part(n:Int):Bool:=letter n||digit n||decide (n=95)
def p9(s:ByteArray)(i:Nat):Nat:=(s.get! i).toNat
def run(p:Int→Bool)(s:ByteArray):Nat:=(s.data.toList.takeWhile fun b=>p b.toNat).length
theorem Us{α:Type}(p:α→Bool):∀(l:List α) (n:Nat) (h:n<l.length),(∀j (aT:j<n),p (l[j]'(by omega))=true)→p l[n]=false→(l.takeWhile p).length=n
 | [],n,h,_,_=>by simp at h
 | x :: l,0,h,_,U=>by simp at U;simp[U]
 | x :: l,n+1,h,h1,U=>by
  have aw:p x=true:=h1 0 (by omega);rw[List.takeWhile_cons,if_pos aw,List.length_cons,Us p l n (by simpa using h) (fun j aT=>h1 (j+1) (by omega)) (by simpa using U)]
theorem Ur{α:Type}(p:α→Bool):∀(l:List α) (_:∀j (aT:j<l.length),p l[j]=true),(l.takeWhile p).length=l.length
 | [],_=>rfl
 | x :: l,h=>by
  have aw:p x=true:=h 0 (by simp);rw[List.takeWhile_cons,if_pos aw,List.length_cons,Ur p l (fun j aT=>h (j+1) (by simpa using aT)),List.length_cons]
theorem TY(p:Int→Bool)(s:ByteArray)(n:Nat)(h:n<s.size)(h1:∀j (aT:j<n),p (s[j]'(by omega)).toNat=true)(U:p s[n].toNat=false):run p s=n :=
 Us (fun b:UInt8=>p b.toNat) s.data.toList n (by simpa using h) (fun j aT=>h1 j aT) U
theorem TS(p:Int→Bool)(s:ByteArray)(h:∀j (aT:j<s.size),p s[j].toNat=true):run p s=s.size:=by
 have:=Ur (fun b:UInt8=>p b.toNat) s.data.toList (fun j aT=>h j (by simpa using aT))
 rw[run,this];simp
theorem Xu{p:Int→Bool}(aO:∀r:Int,128≤r→p r=false)(s:ByteArray)(pos:Nat)(h:pos<s.size) :
  p (Utf8.decode s pos).1=p s[pos].toNat∧(p s[pos].toNat=true→(Utf8.decode s pos).2=1):=by
 by_cases br:s[pos].toNat<128
 ·rw[decode_ascii s pos h br];exact⟨rfl,fun _=>rfl⟩
 ·have h1:=decode_high s pos h (by omega);rw[aO _ (by omega),aO _ (by omega)];exact⟨rfl,fun h=>by simp at h⟩
theorem acu(r:Int)(h:128≤r):letter r=false:=by simp[letter];omega
theorem Xw(r:Int)(h:128≤r):digit r=false:=by simp[digit];omega
theorem adI(r:Int)(h:128≤r):part r=false:=by simp[part,acu r h,Xw r h];omega
instance aiz:LawfulBEq ByteArray where
 eq_of_beq {a b} h:=by rw[bt.As] at h;exact of_decide_eq_true h
 rfl {a}:=by rw[bt.As];exact decide_eq_true rfl
def oT:List ByteArray:=[⟨#[115,101,108,102]⟩,⟨#[110,111,110,101]⟩,⟨#[108,101,110]⟩,⟨#[97,116]⟩]
def isName(s:ByteArray):Bool:=decide (s.size≠0)&&decide (s.size≤16)&&letter (p9 s 0)&&decide (run part s=s.size) && !decide (s∈oT)
theorem ae4(p:Int→Bool)(s:ByteArray):run p s≤s.size:=by
 have:=(List.takeWhile_sublist (fun b:UInt8=>p b.toNat) (l:=s.data.toList)).length_le
 simpa[run] using this
theorem get_eq(s:ByteArray)(i:Nat)(h:i<s.size):s.get! i=s[i]:=by
 obtain⟨d⟩:=s;show d[i]! = d[i];exact getElem!_pos d i h
theorem get?_eq(s:ByteArray)(i:Nat)(h:i<s.size):s[i]? = some (s.get! i):=by rw[get_eq s i h];exact getElem?_pos s i h
structure Scalar where
 name:ByteArray
 size:Int
structure Var where
 name:ByteArray
 scalar:Int
 over:Int
 aZ:Int
 ad:Int
 init:Int
structure c4 where
 name:ByteArray
 scalar:Int
 cap:Int
 aZ:Int
 ad:Int
 SG:Bool
def size(k:Int)(s:List Scalar):Int :=
 match s[(k - 1).toNat]? with
 | some x=>if 1≤k∧1≤x.size∧x.size≤4 then x.size else 0
 | none=>0
def narrow(aZ ad:Int):Bool:=decide (-1048576≤aZ∧aZ≤ad∧ad≤1048576∧ad - aZ<256)
def there(k:Int)(s:List Scalar):Bool:=decide (k=0∨size k s≠0)
def err(eW:Int)(e8:Nat→ByteArray)(mo:Nat→Int)(i:Nat):Int :=
 if eW≤i then 11 else if isName (e8 i)=false then 6 else if ∃j,j<i∧e8 j=e8 i then 7 else mo i
def first(n:Nat)(e:Nat→Int):Int×Int:=match (List.range n).find? (fun i=>decide (e i≠0)) with | some i=>((i:Int),e i) | none=>(0,0)
theorem hG{n:Nat}{e:Nat→Int}{i:Nat}(ad:i<n)(h1:∀j,j<i→e j=0)(U:e i≠0):first n e=((i:Int),e i):=by
 have:(List.range n).find? (fun i=>decide (e i≠0))=some i:=by
  rw[List.find?_range_eq_some];simp only[decide_eq_true_eq];exact⟨U,by simpa using ad,fun j aT=>by simp[h1 j aT]⟩
 rw[first,this]
theorem mV{n:Nat}{e:Nat→Int}(h:∀j,j<n→e j=0):first n e=(0,0):=by
 have:(List.range n).find? (fun i=>decide (e i≠0))=none:=by
  rw[List.find?_range_eq_none];intro j aT;simp[h j aT]
 rw[first,this]
theorem PO{n:Nat}{e e':Nat→Int}(h:∀j,j<n→e j=e' j):first n e=first n e':=by
 by_cases aw:∃i,i<n∧e i≠0∧∀j,j<i→e j=0
 ·obtain⟨i,ad,h1,U⟩:=aw;rw[hG ad U h1,hG ad (fun j aT=>by rw[←h j (by omega)];exact U j aT) (by rw[←h i ad];exact h1),h i ad]
 ·have bU:∀j,j<n→e j=0:=by
   intro j
   induction j using Nat.strongRecOn with
   | _ j gf =>
    intro aT;by_cases aj:e j=0
    ·exact aj
    ·exact absurd ⟨j,aT,aj,fun k hk=>gf k hk (by omega)⟩ aw
  rw[mV bU,mV fun j aT=>by rw[←h j aT];exact bU j aT]
def nameAt{α:Type}(f:α→ByteArray)(l:List α)(i:Nat):ByteArray:=(l[i]?.map f).getD ⟨#[]⟩
def rI(l:List Scalar)(i:Nat):Int:=match l[i]? with | some x=>if 1≤x.size∧x.size≤4 then 0 else 10 | none=>0
def scalars(l:List Scalar):Int×Int:=first l.length (err 2 (nameAt (·.name) l) (rI l))
def bounds(v:Var)(s:List Scalar):Int×Int:=if v.scalar=0 then (v.aZ,v.ad) else (0,size v.scalar s)
def cells(v:Var)(s:List Scalar):Int:=if v.over=0 then 1 else size v.over s
def nk(l:List Var)(s:List Scalar)(i:Nat):Int :=
 match l[i]? with
 | some v=>if there v.scalar s=false∨there v.over s=false then 8
  else if (v.scalar=0∧narrow v.aZ v.ad=false)∨v.init<(bounds v s).1∨v.init > (bounds v s).2 then 10 else 0
 | none=>0
def vars(l:List Var)(s:List Scalar)(eW:Int):Int×Int:=first l.length (err (max eW 0) (nameAt (·.name) l) (nk l s))
def mT(l:List c4)(s:List Scalar)(i:Nat):Int :=
 match l[i]? with
 | some c=>if there c.scalar s=false then 8
  else if c.cap<1∨c.cap > 4∨(c.scalar=0∧narrow c.aZ c.ad=false) then 10 else 0
 | none=>0
def aH(l:List c4)(s:List Scalar):Int×Int:=first l.length (err 4 (nameAt (·.name) l) (mT l s))
end o
end
section
namespace o
open Go Go.RowKit bt
def Scalar.enc(x:Scalar):List Value:=[.string x.name,.int .i64 x.size]
def Var.enc(x:Var):List Value:=[.string x.name,.int .i64 x.scalar,.int .i64 x.over,.int .i64 x.aZ,.int .i64 x.ad,.int .i64 x.init]
def c4.enc(x:c4):List Value:=[.string x.name,.int .i64 x.scalar,.int .i64 x.cap,.int .i64 x.aZ,.int .i64 x.ad,.bool x.SG]
def hQ(s:ByteArray):Prop:=s.size≤9223372036854775807
instance aiN(s:ByteArray):Decidable (hQ s):=Nat.decLe _ _
structure ia(w:World)(a:Addr)(x:Scalar):Prop where
 cells:fb w a x.enc
 ok:hQ x.name
structure ot(w:World)(a:Addr)(x:Var):Prop where
 cells:fb w a x.enc
 ok:hQ x.name
structure oq(w:World)(a:Addr)(x:c4):Prop where
 cells:fb w a x.enc
 ok:hQ x.name
theorem ia.ext(w w':World)(a:Addr)(x:Scalar)(he:Ext w w')(h:ia w a x):ia w' a x:=⟨h.cells.ext he,h.ok⟩
theorem ot.ext(w w':World)(a:Addr)(x:Var)(he:Ext w w')(h:ot w a x):ot w' a x:=⟨h.cells.ext he,h.ok⟩
theorem oq.ext(w w':World)(a:Addr)(x:c4)(he:Ext w w')(h:oq w a x):oq w' a x:=⟨h.cells.ext he,h.ok⟩
abbrev fY(w:World)(v:Value)(l:List Scalar):Prop:=bB 2 ia w v l
abbrev gF(w:World)(v:Value)(l:List Var):Prop:=bB 6 ot w v l
abbrev lG(w:World)(v:Value)(l:List c4):Prop:=bB 6 oq w v l
theorem fY.aV{w:World}{b n:Nat}{e:TypeId}{f:Nat×Nat}{xs:List Scalar}(aD:w.heap[b]? = some (.cells (xs.flatMap Scalar.enc).toArray e f))(aN:n=xs.length)(hm:xs.length≤maxLen)(dd:∀x∈xs,hQ x.name) :
  fY w (.slice (some ⟨b,0,none⟩) n n) xs:=bB.aV (enc:=Scalar.enc) (fun _=>rfl) aD aN hm fun _ x aw av=>⟨av,dd x aw⟩
theorem gF.aV{w:World}{b n:Nat}{e:TypeId}{f:Nat×Nat}{xs:List Var}(aD:w.heap[b]? = some (.cells (xs.flatMap Var.enc).toArray e f))(aN:n=xs.length)(hm:xs.length≤maxLen)(dd:∀x∈xs,hQ x.name) :
  gF w (.slice (some ⟨b,0,none⟩) n n) xs:=bB.aV (enc:=Var.enc) (fun _=>rfl) aD aN hm fun _ x aw av=>⟨av,dd x aw⟩
structure Node where
 op:Int
 n:Int
structure Act where
 kind:Int
 to:Int
 loc:Int
 index:List Node
 value:List Node
structure dD where
 name:ByteArray
 from_:Int
 to:Int
 guard:List Node
 b6:List Act
 fair:Bool
structure dj where
 name:ByteArray
 over:Int
 cz:Int
 vars:List Var
 cJ:List dD
structure kb where
 name:ByteArray
 expr:List Node
structure Model where
 scalars:List Scalar
 vars:List Var
 aH:List c4
 procs:List dj
 props:List kb
structure cW where
 proc:Int
 elem:Int
deriving DecidableEq
structure Ref where
 inst:Int
 cmd:Int
deriving DecidableEq
def cW.enc(x:cW):List Value:=[.int .i64 x.proc,.int .i64 x.elem]
def Ref.enc(x:Ref):List Value:=[.int .i64 x.inst,.int .i64 x.cmd]
def Node.enc(x:Node):List Value:=[.int .i64 x.op,.int .i64 x.n]
def ep(n:Int):Prop := -9223372036854775808≤n∧n≤9223372036854775807
structure Node.ok(x:Node):Prop where
 op:ep x.op
 n:ep x.n
structure vu(w:World)(a:Addr)(x:Node):Prop where
 cells:fb w a x.enc
 ok:x.ok
theorem vu.ext(w w':World)(a:Addr)(x:Node)(he:Ext w w')(h:vu w a x):vu w' a x:=⟨h.cells.ext he,h.ok⟩
abbrev fA(w:World)(v:Value)(l:List Node):Prop:=bB 2 vu w v l
theorem fA.ext{w w':World}{v:Value}{l:List Node}(he:Ext w w')(h:fA w v l):fA w' v l:=bB.ext vu.ext he h
def Act.enc(x:Act)(cn cr:Value):List Value:=[.int .i64 x.kind,.int .i64 x.to,.int .i64 x.loc,cn,cr]
def vq(w:World)(a:Addr)(x:Act):Prop := ∃cn cr,fb w a (x.enc cn cr)∧fA w cn x.index∧fA w cr x.value
theorem vq.ext(w w':World)(a:Addr)(x:Act)(he:Ext w w')(h:vq w a x):vq w' a x:=let ⟨cn,cr,h1,U,ai⟩:=h; ⟨cn,cr,h1.ext he,U.ext he,ai.ext he⟩
abbrev mH(w:World)(v:Value)(l:List Act):Prop:=bB 5 vq w v l
theorem mH.ext{w w':World}{v:Value}{l:List Act}(he:Ext w w')(h:mH w v l):mH w' v l:=bB.ext vq.ext he h
def dD.enc(x:dD)(fw eD:Value):List Value:=[.string x.name,.int .i64 x.from_,.int .i64 x.to,fw,eD,.bool x.fair]
def vr(w:World)(a:Addr)(x:dD):Prop:=hQ x.name∧∃fw eD,fb w a (x.enc fw eD)∧fA w fw x.guard∧mH w eD x.b6
theorem vr.ext(w w':World)(a:Addr)(x:dD)(he:Ext w w')(h:vr w a x):vr w' a x:=let ⟨aj,cn,cr,h1,U,ai⟩:=h; ⟨aj,cn,cr,h1.ext he,U.ext he,ai.ext he⟩
abbrev o6(w:World)(v:Value)(l:List dD):Prop:=bB 6 vr w v l
theorem o6.ext{w w':World}{v:Value}{l:List dD}(he:Ext w w')(h:o6 w v l):o6 w' v l:=bB.ext vr.ext he h
theorem fY.ext{w w':World}{v:Value}{l:List Scalar}(he:Ext w w')(h:fY w v l):fY w' v l:=bB.ext ia.ext he h
theorem gF.ext{w w':World}{v:Value}{l:List Var}(he:Ext w w')(h:gF w v l):gF w' v l:=bB.ext ot.ext he h
theorem lG.ext{w w':World}{v:Value}{l:List c4}(he:Ext w w')(h:lG w v l):lG w' v l:=bB.ext oq.ext he h
def dj.enc(x:dj)(cr dL:Value):List Value:=[.string x.name,.int .i64 x.over,.int .i64 x.cz,cr,dL]
def xJ(w:World)(a:Addr)(x:dj):Prop:=hQ x.name∧∃cr dL,fb w a (x.enc cr dL)∧gF w cr x.vars∧o6 w dL x.cJ
theorem xJ.ext(w w':World)(a:Addr)(x:dj)(he:Ext w w')(h:xJ w a x):xJ w' a x:=let ⟨aj,cn,cr,h1,U,ai⟩:=h; ⟨aj,cn,cr,h1.ext he,U.ext he,ai.ext he⟩
abbrev o9(w:World)(v:Value)(l:List dj):Prop:=bB 5 xJ w v l
theorem o9.ext{w w':World}{v:Value}{l:List dj}(he:Ext w w')(h:o9 w v l):o9 w' v l:=bB.ext xJ.ext he h
def xz(w:World)(cs:List Value)(c:dD):Prop:=hQ c.name∧∃fw eD,cs=c.enc fw eD∧fA w fw c.guard∧mH w eD c.b6
theorem xz.ext{w w':World}{cs:List Value}{c:dD}(he:Ext w w')(h:xz w cs c):xz w' cs c:=let ⟨aj,cn,cr,h1,U,ai⟩:=h; ⟨aj,cn,cr,h1,U.ext he,ai.ext he⟩
def tD(w:World)(cs:List Value)(p:dj):Prop:=hQ p.name∧∃cr dL,cs=p.enc cr dL∧gF w cr p.vars∧o6 w dL p.cJ
theorem tD.ext{w w':World}{cs:List Value}{p:dj}(he:Ext w w')(h:tD w cs p):tD w' cs p:=let ⟨aj,cn,cr,h1,U,ai⟩:=h; ⟨aj,cn,cr,h1,U.ext he,ai.ext he⟩
def kb.enc(x:kb)(hg:Value):List Value:=[.string x.name,hg]
def xK(w:World)(a:Addr)(x:kb):Prop:=hQ x.name∧∃hg,fb w a (x.enc hg)∧fA w hg x.expr
theorem xK.ext(w w':World)(a:Addr)(x:kb)(he:Ext w w')(h:xK w a x):xK w' a x:=let ⟨aj,cn,h1,U⟩:=h; ⟨aj,cn,h1.ext he,U.ext he⟩
abbrev xH(w:World)(v:Value)(l:List kb):Prop:=bB 2 xK w v l
theorem xH.ext{w w':World}{v:Value}{l:List kb}(he:Ext w w')(h:xH w v l):xH w' v l:=bB.ext xK.ext he h
structure ew(w:World)(cs:List Value)(m:Model):Prop where
 ex:∃v0 v1 v2 v3 v4,cs=[v0,v1,v2,v3,v4]∧fY w v0 m.scalars∧gF w v1 m.vars∧lG w v2 m.aH∧o9 w v3 m.procs∧xH w v4 m.props
theorem ew.ext{w w':World}{cs:List Value}{m:Model}(he:Ext w w')(h:ew w cs m):ew w' cs m :=
 let ⟨v0,v1,v2,v3,v4,e,aj,h1,U,ai,aL⟩:=h.ex
 ⟨v0,v1,v2,v3,v4,e,aj.ext he,h1.ext he,U.ext he,ai.ext he,aL.ext he⟩
instance aiw:j6 vu Node.enc:=⟨fun _ _ _ h=>h.cells⟩
instance aix:j6 ia Scalar.enc:=⟨fun _ _ _ h=>h.cells⟩
instance aiy:j6 ot Var.enc:=⟨fun _ _ _ h=>h.cells⟩
instance ais:j6 oq c4.enc:=⟨fun _ _ _ h=>h.cells⟩
end o
end
section
namespace bt
open Go Go.RowKit
section
variable{P:Program}{aE:Value→Prop}{w w0:World}
theorem K.JU{a:Addr}{cs:List Value}{j:Nat}{v:Value}{t}(h:fb w0 a cs)(he:Ext w0 w)(aT:cs[j]? = some v)(hk:aE v):o7 (.pointer (some (a.add j))) w aE t:=K.ld (he.cell (h j v aT)) hk
theorem K.JT{a:Addr}{cs:List Value}{n:Nat}{t}(h:fb w0 a cs)(he:Ext w0 w)(aN:cs.length=n)(hk:aE (.agg cs.toArray)):qS n (.pointer (some a)) w aE t:=K.iZ (h.ext he) aN hk
end
theorem aa{A B:Prop}(k:B)(h:tz B→A:=by
 intro q
 (repeat' first
 | assumption
 | exact Ext.refl _
 | refine Ext.trans ?_ (by assumption)
 | simp -dsimp only[cI,cu,Nat.reduceAdd,Nat.reduceEqDiff,reduceIte,reduceCtorEq,cS,ti,th,sR,sQ,sm,sl,List.cons_append,List.nil_append]
 | refine K.wrap (by omega) ?_
 | refine K.rB (by assumption) ?_ rfl ?_
 | refine K.pC (by assumption) ?_ rfl ?_
 | refine K.sN (by omega) ?_
 | refine K.r9 (by first | assumption | omega) ?_
 | refine K.r8 (by first | assumption | omega) ?_
 | refine K.qe (by assumption) ?_
 | refine K.qd (by assumption) ?_
 | refine K.sU (by assumption) ?_ (by omega) rfl ?_
 | refine K.sV (by assumption) ?_ (by omega) rfl ?_
 | refine K.sT (by assumption) ?_ (by omega) rfl ?_
 | refine K.JU (by assumption) ?_ rfl ?_
 | refine K.JT (by assumption) ?_ rfl ?_
 | refine K.gg (by assumption) ?_ rfl ?_
 | refine K.rE (fun _=>by (simp -dsimp only[cI,Nat.reduceAdd,Nat.reduceEqDiff,reduceIte,reduceCtorEq,cS]);rfl) rfl rfl (by first | assumption | (simp[Value.oneCell',o.cW.enc,o.Ref.enc,o.Node.enc,o.Scalar.enc,o.Var.enc,o.c4.enc,o.Act.enc,o.dD.enc,o.dj.enc,o.kb.enc];done)) ?_
 | refine K.new ?_
 | refine K.kW (by assumption) rfl rfl (by first | assumption | (simp[Value.oneCell',o.cW.enc,o.Ref.enc,o.Node.enc,o.Scalar.enc,o.Var.enc,o.c4.enc,o.Act.enc,o.dD.enc,o.dj.enc,o.kb.enc];done)) ?_
 | refine K.st1 (by assumption) (Nat.le_of_ble_eq_true rfl) rfl ?_
 | refine K.rL (by assumption) (Nat.le_of_ble_eq_true rfl) rfl ?_
 | refine K.kg (by (simp only[ey,lay,nC,fr,cb,Value.cells,Nat.reduceAdd,Nat.reduceEqDiff,reduceIte,List.range,List.range.loop,List.map_cons,List.map_nil]);rfl) ?_
 | refine K.cA (by (simp only[ey,lay,nC,fr,cb,Value.cells,Nat.reduceAdd,Nat.reduceEqDiff,reduceIte]);rfl) ?_)
 exact q.out):A:=h ⟨k⟩
theorem ei{A B:Prop}(k:B)(h:tz B→A:=by
 intro q
 (repeat' first
 | assumption
 | exact Ext.refl _
 | refine Ext.trans ?_ (by assumption)
 | simp -dsimp only[cI,Nat.reduceAdd,Nat.reduceEqDiff,reduceIte,reduceCtorEq,cS,ti,th,sR,sQ,sm,sl,List.cons_append,List.nil_append]
 | refine K.wrap (by omega) ?_
 | refine K.rB (by assumption) ?_ rfl ?_
 | refine K.pC (by assumption) ?_ rfl ?_
 | refine K.sN (by omega) ?_
 | refine K.r9 (by first | assumption | omega) ?_
 | refine K.r8 (by first | assumption | omega) ?_
 | refine K.qe (by assumption) ?_
 | refine K.qd (by assumption) ?_
 | refine K.sU (by assumption) ?_ (by omega) rfl ?_
 | refine K.sV (by assumption) ?_ (by omega) rfl ?_
 | refine K.sT (by assumption) ?_ (by omega) rfl ?_
 | refine K.JU (by assumption) ?_ rfl ?_
 | refine K.JT (by assumption) ?_ rfl ?_
 | refine K.gg (by assumption) ?_ rfl ?_
 | refine K.rE (fun _=>by (simp -dsimp only[cI,Nat.reduceAdd,Nat.reduceEqDiff,reduceIte,reduceCtorEq,cS]);rfl) rfl rfl (by first | assumption | (simp[Value.oneCell',o.cW.enc,o.Ref.enc,o.Node.enc,o.Scalar.enc,o.Var.enc,o.c4.enc,o.Act.enc,o.dD.enc,o.dj.enc,o.kb.enc];done)) ?_
 | refine K.new ?_
 | refine K.kW (by assumption) rfl rfl (by first | assumption | (simp[Value.oneCell',o.cW.enc,o.Ref.enc,o.Node.enc,o.Scalar.enc,o.Var.enc,o.c4.enc,o.Act.enc,o.dD.enc,o.dj.enc,o.kb.enc];done)) ?_
 | refine K.st1 (by assumption) (Nat.le_of_ble_eq_true rfl) rfl ?_
 | refine K.rL (by assumption) (Nat.le_of_ble_eq_true rfl) rfl ?_
 | refine K.kg (by (simp only[ey,lay,nC,fr,cb,Value.cells,Nat.reduceAdd,Nat.reduceEqDiff,reduceIte,List.range,List.range.loop,List.map_cons,List.map_nil]);rfl) ?_
 | refine K.cA (by (simp only[ey,lay,nC,fr,cb,Value.cells,Nat.reduceAdd,Nat.reduceEqDiff,reduceIte]);rfl) ?_)
 exact q.out):A:=h ⟨k⟩
end bt
end
section
namespace bt
open Go Go.RowKit
def fM(A:Nat→Prop)(p:World→Prop)(w:World):Prop := ∀w',Mod A w w'→p w'
theorem fM.here{A:Nat→Prop}{p:World→Prop}{w:World}(h:fM A p w):p w:=h w (Mod.refl A w)
theorem Mod.comp{A A' B:Nat→Prop}{a b c:World}(h:Mod A a b)(k:Mod A' b c)(h1:∀i,i<a.heap.size→A i→B i)(U:∀i,i<a.heap.size→A' i→B i):Mod B a c :=
 ⟨k.os.trans h.os,k.tape.trans h.tape,k.output.trans h.output,Nat.le_trans h.size k.size,fun i ad aN=>(k.block i (Nat.lt_of_lt_of_le ad h.size) fun e=>aN (U i ad e)).trans (h.block i ad fun e=>aN (h1 i ad e))⟩
theorem fM.move{A A' B:Nat→Prop}{p:World→Prop}{w w':World}(h:fM B p w)(m:Mod A w w')(h1:∀i,i<w.heap.size→A i→B i)(U:∀i,i<w.heap.size→A' i→B i):fM A' p w' :=
 fun bY k=>h bY (m.comp k h1 U)
theorem fM.mono{A B:Nat→Prop}{p:World→Prop}{w:World}(h:fM B p w)(U:∀i,i<w.heap.size→A i→B i):fM A p w:=h.move (Mod.refl A w) U U
theorem fM.ext{B:Nat→Prop}{p:World→Prop}{w w':World}(h:fM B p w)(e:Ext w w')(kj:∀i,w.heap.size≤i→¬B i):fM B p w' :=
 h.move (A:=fun _=>False) e.mod (fun _ _ h=>h.elim) (fun _ _ h=>h)
theorem fM.imp{A:Nat→Prop}{p q:World→Prop}{w:World}(h:fM A p w)(Jh:∀w,p w→q w):fM A q w:=fun w' m=>Jh w' (h w' m)
theorem fM.and{A:Nat→Prop}{p q:World→Prop}{w:World}(h:fM A p w)(k:fM A q w):fM A (fun w=>p w∧q w) w:=fun w' m=>⟨h w' m,k w' m⟩
theorem fM.of{A:Nat→Prop}{p:World→Prop}{w:World}(h:∀w',p w'):fM A p w:=fun w' _=>h w'
abbrev dW(w:World)(p:World→Prop)(w':World):Prop:=fM (fun k=>k<w.heap.size) p w'
theorem dW.ext{w w1 aR:World}{p:World→Prop}(h:dW w p w1)(he:Ext w1 aR)(aj:w.heap.size≤w1.heap.size):dW w p aR :=
 fM.ext h he fun i ad hk=>by omega
theorem dW.low{w w0 w1:World}{p:World→Prop}(h:dW w p w1)(aj:w0.heap.size≤w.heap.size):dW w0 p w1:=h.mono fun i _ ad=>by omega
theorem dW.wr{w w1 aR:World}{p:World→Prop}{b:Nat}(h:dW w p w1)(hw:dH b w1 aR)(aD:b<w.heap.size):dW w p aR :=
 fM.move h (A:=fun k=>k=b) (hw.mod rfl) (fun i _ e=>by omega) (fun i _ e=>e)
theorem dW.grown{w w1 aR:World}{p:World→Prop}{row:Option Nat}(h:dW w p w1)(a6:w1.grownBy aR row)(aD:∀k,row=some k→k<w.heap.size):dW w p aR :=
 fM.move h (A:=fun k=>row=some k) (Mod.grown a6 fun k hk=>hk) (fun i _ e=>aD i e) (fun i _ e=>e)
theorem dW.and{w w1:World}{p q:World→Prop}(h:dW w p w1)(k:dW w q w1):dW w (fun w=>p w∧q w) w1:=fM.and h k
theorem dW.imp{w w1:World}{p q:World→Prop}(h:dW w p w1)(Jh:∀w,p w→q w):dW w q w1:=fM.imp h Jh
class Rel{α:Type}(R:World→Addr→α→Prop)(C:outParam (World→List Value→α→Prop))(sz:outParam Nat):Prop where
 out:∀{w a x},R w a x→∃cs,fb w a cs∧C w cs x
 nX:∀{w a cs x},fb w a cs→C w cs x→R w a x
 len:∀{w cs x},C w cs x→cs.length=sz
 one:∀{w cs x},C w cs x→∀u∈cs,u.oneCell'=true
 ext:∀{w w' cs x},Ext w w'→C w cs x→C w' cs x
abbrev np(sz:Nat):={cs:List Value // cs.length=sz∧∀u∈cs,u.oneCell'=true}
def q5{sz:Nat}(c:np sz):List Value:=c.1
theorem ue{sz:Nat}(c:np sz):(q5 c).length=sz:=c.2.1
theorem HP{sz:Nat}(c:np sz):∀u∈q5 c,u.oneCell'=true:=c.2.2
abbrev tB(e:TypeId)(sz base:Nat)(w:World)(v:Value)(eF:List (np sz)):Prop:=bp q5 e sz base w v eF
theorem bB.cells{α:Type}{R:World→Addr→α→Prop}{C:World→List Value→α→Prop}{sz:Nat}[Rel R C sz]{w:World}{v:Value}{xs:List α}(h:bB sz R w v xs) :
  ∃eF:List (np sz),eF.length=xs.length∧bB sz (Flat q5) w v eF∧∀i (h1:i<eF.length) (U:i<xs.length),C w eF[i].1 xs[i]:=by
 obtain⟨bh,cap,rfl,h1,U,ai,aL⟩:=h.ex;obtain⟨eF,aQ,av⟩:=JW xs.length (fun i (c:np sz)=>(∀a,bh=some a→fb w (a.add (i*sz)) c.1)∧∀(h:i<xs.length),C w c.1 xs[i]) fun i ad=>by
  obtain⟨a,rfl⟩:=Option.isSome_iff_exists.1 (ai (by intro e;subst e;simp at ad));obtain⟨cs,c1,c2⟩:=Rel.out (aL a rfl i ad);exact⟨⟨cs,Rel.len (R:=R) c2,Rel.one (R:=R) c2⟩,fun dq e=>by injection e with e;subst e;exact c1,fun _=>c2⟩
 refine⟨eF,aQ,⟨bh,cap,by rw[aQ],by omega,U,fun aN=>ai (by intro e;subst e;simp at aQ;exact aN aQ),fun a br i ad=>(av i ad).1 a br⟩,fun i h1 U=>(av i h1).2 U⟩
theorem bB.J9{α:Type}{R:World→Addr→α→Prop}{C:World→List Value→α→Prop}{sz:Nat}[Rel R C sz]{w:World}{v:Value}{xs:List α}{eF:List (np sz)}(aQ:eF.length=xs.length)(h:bB sz (Flat q5) w v eF)
  (av:∀i (h1:i<eF.length) (U:i<xs.length),C w eF[i].1 xs[i]):bB sz R w v xs:=by
 obtain⟨bh,cap,rfl,h1,U,ai,aL⟩:=h.ex;refine⟨bh,cap,by rw[aQ],by omega,U,fun aN=>ai (by intro e;subst e;simp at aQ;exact aN (List.eq_nil_of_length_eq_zero aQ.symm)),fun a br i ad=>Rel.nX (aL a br i (by omega)) (av i (by omega) ad)⟩
theorem K.tM{P:Program}{cY:Value→World→Prop}{α:Type}{enc:α→List Value}{e:TypeId}{sz base:Nat}{w:World}{xs:List α}{ty:TypeId}{b:Nat}{s:Value}{a:Addr}{m c:Nat}{ys:List α}{t}(ay:bp enc e sz base w s xs)(c3:∀x,(enc x).length=sz)(av:fb w a (ys.flatMap enc))(hm:m=ys.length)
  (h1:∀y,∀u∈enc y,u.oneCell'=true)(aD:(xs.length+ys.length)*b≤140737488355328)(jo:xs.length+ys.length≤maxLen)(iB:base≤w.heap.size)
  (hk:∀b3 w',bp enc e sz base w' b3 (xs++ys)→w.grownBy w' s.ownBlock→(b3.ownBlock=s.ownBlock∨b3.ownBlock=some w.heap.size)→cY b3 w'):j5 P ty e sz b s (.slice (some a) m c) w cY t:=by
 subst hm;refine K.app fun⟨aK,i,z,ad,bU,yR,yu,wI,Fx⟩=>?_;obtain⟨b3,w',bk,U,ai,_,bn⟩:=run_append_own_at (P:=P) w base ty ty e i z sz b aK ad bU yR yu wI Fx s _ _ ay a _ c _ (vU c3 ys) av (fun u hu=>by obtain⟨y,_,cB⟩:=List.mem_flatMap.1 hu;exact h1 y u cB) jo aD iB;refine⟨ty,b3,w',bk,hk b3 w' ?_ ai bn⟩;unfold bp;rw[List.length_append,List.flatMap_append];exact U
def vo(v:Value)(base k:Nat):Prop:=v.ownBlock=some k∨k<base
structure eY{α:Type}(C:World→List Value→α→Prop)(e:TypeId)(sz base:Nat)(w:World)(v:Value)(xs:List α):Prop where
 ex:∃eF:List (np sz),eF.length=xs.length∧tB e sz base w v eF∧∀i (h1:i<eF.length) (U:i<xs.length),fM (vo v base) (fun w=>C w eF[i].1 xs[i]) w
section
variable{α:Type}{C:World→List Value→α→Prop}{e:TypeId}{sz base:Nat}{w w':World}{v:Value}{xs:List α}
theorem eY.nil(C:World→List Value→α→Prop)(e:TypeId)(sz base:Nat)(w:World):eY C e sz base w (.slice none 0 0) []:=⟨[],rfl,bp.nil _ _ _ _ _,fun i h=>by cases h⟩
theorem eY.form(h:eY C e sz base w v xs):∃bh cap,v = .slice bh xs.length cap∧xs.length≤cap∧cap≤maxLen:=by
 obtain⟨eF,aQ,a8,_⟩:=h.ex;obtain⟨bh,cap,h1,U,ai⟩:=a8.form;exact⟨bh,cap,by rw[h1,aQ],by omega,ai⟩
theorem eY.lt(h:eY C e sz base w v xs):∀k,v.ownBlock=some k→base≤k∧k<w.heap.size:=by
 obtain⟨eF,aQ,a8,_⟩:=h.ex;exact a8.lt
theorem bp.mod{enc:α→List Value}{A:Nat→Prop}(h:bp enc e sz base w v xs)(m:Mod A w w')(eC:∀k,v.ownBlock=some k→¬A k):bp enc e sz base w' v xs:=by
 refine⟨h.1,?_⟩;rcases h.2 with aN | ⟨g,cap,cur,rfl,aD,a6,rest⟩
 ·exact .inl aN
 ·exact .inr ⟨g,cap,cur,rfl,aD,m.obj (eC g rfl) a6,rest⟩
theorem bp.aV{enc:α→List Value}(h:bp enc e sz base w v xs):∀k,v.ownBlock=some k→∃cur,w.heap[k]? = some (.cells cur e):=fun k hk=>by
 rcases h.2 with ⟨rfl,_⟩ | ⟨g,cap,cur,rfl,aD,a6,rest⟩
 ·cases hk
 ·simp only[Value.ownBlock,Option.some.injEq] at hk;subst hk;exact⟨cur,a6⟩
theorem eY.mod{A:Nat→Prop}(h:eY C e sz base w v xs)(m:Mod A w w')(eC:∀k,k<w.heap.size→A k→k<base):eY C e sz base w' v xs:=by
 obtain⟨eF,aQ,a8,av⟩:=h.ex;refine⟨eF,aQ,a8.mod m fun k hk a=>?_,fun i h1 U=>(av i h1 U).move m (fun i ad a=>.inr (eC i ad a)) fun _ _ a=>a⟩
 have:=a8.lt k hk
 have:=eC k this.2 a
 omega
theorem eY.ext(h:eY C e sz base w v xs)(m:Ext w w'):eY C e sz base w' v xs:=h.mod (A:=fun _=>False) m.mod fun _ _ h=>h.elim
theorem eY.wr{b:Nat}(h:eY C e sz base w v xs)(m:dH b w w')(aD:b<base):eY C e sz base w' v xs:=h.mod (A:=fun k=>k=b) (m.mod rfl) fun k _ e=>by omega
theorem eY.new{R:World→Addr→α→Prop}[Rel R C sz](h:eY C e sz base w v xs):fM (fun k=>k<base) (fun w=>bB sz R w v xs) w:=fun w' m=>by
 have bA:=h.mod m fun k _ a=>a;obtain⟨eF,aQ,a8,av⟩:=bA.ex;exact bB.J9 aQ (a8.o0 ue) fun i h1 U=>(av i h1 U).here
theorem eY.o0{R:World→Addr→α→Prop}[Rel R C sz](h:eY C e sz base w v xs):bB sz R w v xs:=(h.new (R:=R)).here
theorem eY.under(h:eY C e sz base w v xs)(aD:base≤w.heap.size):∀k,vo v base k→k<w.heap.size:=fun k hk=>by
 rcases hk with hk | hk
 ·exact(h.lt k hk).2
 ·omega
theorem dW.own{p:World→Prop}{w1:World}(aN:dW w p w1)(h:eY C e sz base w v xs)(aD:base≤w.heap.size):fM (vo v base) p w1:=aN.mono fun i _ ad=>h.under aD i ad
theorem eY.box{t:TypeId}{k:Nat}{c:Array Value}(a8:eY C e sz base w v xs)(a6:w.grownBy w' v.ownBlock)(hk:w.heap[k]? = some (.cells c t))(aK:t≠e):w'.heap[k]? = some (.cells c t):=by
 obtain⟨eF,_,a8,_⟩:=a8.ex;rw[a6.block k (cL hk) fun e'=>?_]
 ·exact hk
 rcases a8.2 with ⟨rfl,_⟩ | ⟨g,cap,c2,rfl,_,yB,_⟩
 ·cases e'
 ·simp only[Value.ownBlock,Option.some.injEq] at e';subst e';rw[yB] at hk;injection hk with hk
  injection hk with _ hk
  exact aK hk.symm
theorem eY.kH{w0:World}(a8:eY C e sz base w v xs)(he:Ext w0 w)(a6:w.grownBy w' v.ownBlock)(aD:w0.heap.size≤base):Ext w0 w':=he.grown a6 fun k hk=>Nat.le_trans aD (a8.lt k hk).1
theorem K.tN{P:Program}{cY:Value→World→Prop}{ty:TypeId}{b:Nat}{a:Addr}{c:Nat}{cs:List Value}{x:α}{t}(ay:eY C e sz base w v xs)(av:fb w a cs)(de:fM (vo v base) (fun w=>C w cs x) w)
  (c3:cs.length=sz)(h1:∀u∈cs,u.oneCell'=true)(aD:(xs.length+1)*b≤140737488355328)(jo:xs.length+1≤maxLen)(iB:base≤w.heap.size)
  (hk:∀b3 w',eY C e sz base w' b3 (xs++[x])→w.grownBy w' v.ownBlock→cY b3 w'):j5 P ty e sz b v (.slice (some a) 1 c) w cY t:=by
 obtain⟨eF,aQ,a8,nS⟩:=ay.ex;refine K.tM (enc:=q5) (ys:=[(⟨cs,c3,h1⟩:np sz)]) a8 ue (by simpa[q5] using av) rfl HP (by rw[aQ];exact aD) (by rw[aQ];exact jo) iB fun b3 w' kO a6 jq=>hk b3 w' ⟨eF++[⟨cs,c3,h1⟩],by simp[aQ],kO,fun i h1 U=>?_⟩ a6;have hm:Mod (fun k=>v.ownBlock=some k) w w':=Mod.grown a6 fun k hk=>hk;have fB:∀k,k<w.heap.size→b3.ownBlock=some k→vo v base k:=fun k hk he=>by
  rcases jq with e | e
  ·exact .inl (e ▸ he)
  ·rw[e] at he;injection he with he;omega
 have key:∀{p:World→Prop},fM (vo v base) p w→fM (vo b3 base) p w':=fun {p} h=>h.move hm (fun i _ a=>.inl a) fun i ad a=>by
  rcases a with a | a
  ·exact fB i ad a
  ·exact .inr a
 rw[List.length_append] at h1 U;by_cases ad:i<eF.length
 ·have Fi:i<xs.length:=by omega
  have:=key (nS i ad Fi)
  simpa[List.getElem_append,ad,Fi] using this
 ·have bT:i=eF.length:=by simp at h1;omega
  subst bT;have bg:¬eF.length<xs.length:=by omega
  have:=key de
  simpa[List.getElem_append,bg] using this
end
section
variable{α:Type}{enc:α→List Value}{e:TypeId}{sz base:Nat}{w w':World}{v:Value}{xs:List α}
theorem bp.box{t:TypeId}{k:Nat}{c:Array Value}(a8:bp enc e sz base w v xs)(a6:w.grownBy w' v.ownBlock)(hk:w.heap[k]? = some (.cells c t))(aK:t≠e):w'.heap[k]? = some (.cells c t):=by
 rw[a6.block k (cL hk) fun e'=>?_]
 ·exact hk
 ·obtain⟨cur,h⟩:=a8.aV k e'.symm;rw[hk] at h;injection h with h;injection h with _ h;exact aK h
theorem bp.kH{w0:World}(a8:bp enc e sz base w v xs)(he:Ext w0 w)(a6:w.grownBy w' v.ownBlock)(aD:w0.heap.size≤base):Ext w0 w':=he.grown a6 fun k hk=>Nat.le_trans aD (a8.lt k hk).1
theorem K.mi{P:Program}{cY:Value→World→Prop}{ty:TypeId}{fN b:Nat}{y:α}{cs:List Value}{t}(ay:bp enc e sz base w v xs)(av:w.heap[b]? = some (.cells cs.toArray e))(fR:cs=enc y)(c3:∀x,(enc x).length=sz)(h1:∀y,∀u∈enc y,u.oneCell'=true)
  (aD:(xs.length+1)*fN≤140737488355328)(jo:xs.length+1≤maxLen)(iB:base≤w.heap.size)
  (hk:∀bh n c w',bp enc e sz base w' (.slice bh n c) (xs++[y])→w.grownBy w' v.ownBlock→cY (.slice bh n c) w'):j5 P ty e sz fN v (.slice (some ⟨b,0,none⟩) 1 1) w cY t:=by
 refine K.tM (ys:=[y]) ay c3 (by subst fR;simpa using fZ av) rfl h1 aD jo iB fun b3 w' a8 a6 _=>?_;obtain⟨bh,cap,rfl,_⟩:=a8.form;exact hk _ _ _ _ a8 a6
end
theorem KE{α:Type}{l:List α}{k b:Nat}(hk:k<l.length)(aD:l.length*b≤140737488351232)(hm:l.length≤9223372036854775807):((l.take k).length+1)*b≤140737488355328∧(l.take k).length+1≤maxLen:=by
 have e:(l.take k).length=k:=by rw[List.length_take];omega
 rw[e]
 have:=Nat.mul_le_mul_right b (show k+1≤l.length from hk)
 exact⟨by omega,by unfold maxLen;omega⟩
theorem eY.snoc{α:Type}{C:World→List Value→α→Prop}{e:TypeId}{sz base:Nat}{w:World}{v:Value}{l:List α}{k:Nat}(hk:k<l.length)(h:eY C e sz base w v (l.take k++[l[k]])):eY C e sz base w v (l.take (k+1)):=by
 rw[List.take_succ_eq_append_getElem hk];exact h
theorem eY.done{α:Type}{C:World→List Value→α→Prop}{e:TypeId}{sz base:Nat}{w:World}{v:Value}{l:List α}{k:Nat}(hk:l.length≤k)(h:eY C e sz base w v (l.take k)):eY C e sz base w v l:=by
 rwa[List.take_of_length_le hk] at h
end bt
end
section
namespace bt
open Go Go.RowKit
inductive ib where
 | i
 | b
 | s
deriving DecidableEq
def ib.of:TypeDesc→Option ib
 | .int .i64=>some .i
 | .bool=>some .b
 | .string=>some .s
 | _=>none
theorem ib.adg{pO:TypeDesc}(h:ib.of pO=some .i):pO = .int .i64:=by unfold ib.of at h;split at h<;>simp_all
theorem ib.adf{pO:TypeDesc}(h:ib.of pO=some .b):pO = .bool:=by unfold ib.of at h;split at h<;>simp_all
theorem ib.adi{pO:TypeDesc}(h:ib.of pO=some .s):pO = .string:=by unfold ib.of at h;split at h<;>simp_all
def ib.ok:ib→Value→Prop
 | .i,v => ∃n,v = .int .i64 n
 | .b,v => ∃n,v = .bool n
 | .s,v => ∃n,v = .string n
def sa:List ib→List Value→Prop
 | [],[]=>True
 | k :: pB,v :: vs=>k.ok v∧sa pB vs
 | _,_=>False
theorem HE:∀{pB:List ib} {vs:List Value},sa pB vs→vs.length=pB.length
 | [],[],_=>rfl
 | _ :: _,_ :: _,h=>by simp[HE h.2]
 | [],_ :: _,h=>h.elim
 | _ :: _,[],h=>h.elim
def yo(P:Program):List Field→List ib→Nat→Bool
 | [],[],_=>true
 | f :: fK,k :: pB,n=>f.name != "_" && f.offset == n&&((P.underlying f.type).bind ib.of == some k)&&yo P fK pB (n+1)
 | _,_,_=>false
def HR(P:Program)(t:TypeId)(sig:List ib):Bool :=
 match P.underlying t with
 | some (.struct fK) => !P.stoodInHeld t && !P.eqGuardType P.depth t&&yo P fK.toList sig 0
 | _=>false
theorem drop_cons{α:Type}{l:List α}{n:Nat}{x:α}{r:List α}(h:l.drop n=x :: r):l[n]? = some x∧l.drop (n+1)=r:=by
 have h1:l[n]? = some x:=by
  have:=congrArg (·[0]?) h
  simpa using this
 refine⟨h1,?_⟩
 have:=congrArg (List.drop 1) h
 simpa[List.drop_drop] using this
theorem PB{P:Program}(w:World)(d:Nat)(xs ys:Array Value):∀(fK:List Field) (pB:List ib) (n:Nat),yo P fK pB n=true→sa pB (xs.toList.drop n)→sa pB (ys.toList.drop n) →
  ∃r:Bool,(Op.eqFields (d+1) xs ys fK).run P w = .ok r w∧(r=true↔xs.toList.drop n=ys.toList.drop n)
 | [],[],n,_,aw,cB=>by
  refine⟨true,by simp[Op.eqFields],?_⟩;have h1:=HE aw;have U:=HE cB;rw[List.eq_nil_of_length_eq_zero h1,List.eq_nil_of_length_eq_zero U];simp
 | [],_ :: _,_,h,_,_=>by simp[yo] at h
 | _ :: _,[],_,h,_,_=>by simp[yo] at h
 | f :: fK,k :: pB,n,h,aw,cB=>by
  simp only[yo,Bool.and_eq_true,bne_iff_ne,ne_eq,beq_iff_eq] at h;obtain⟨⟨⟨h1,U⟩,ai⟩,aL⟩:=h;obtain⟨pO,hu,hk⟩:=Option.bind_eq_some_iff.1 ai;cases IJ:xs.toList.drop n with
  | nil=>rw[IJ] at aw;exact aw.elim
  | cons x rx =>
   cases IK:ys.toList.drop n with
   | nil=>rw[IK] at cB;exact cB.elim
   | cons y T1 =>
    rw[IJ] at aw;rw[IK] at cB;obtain⟨ex,PI⟩:=drop_cons IJ;obtain⟨Ye,PJ⟩:=drop_cons IK;obtain⟨r,bk,QX⟩:=PB w d xs ys fK pB (n+1) aL (by rw[PI];exact aw.2) (by rw[PJ];exact cB.2);have br:p5 P f.type=some false:=by
     unfold p5;rw[hu];cases pO<;>simp[ib.of] at hk<;>rfl
    have X0:xs[n]? = some x:=by rw[←Array.getElem?_toList];exact ex
    have Yf:ys[n]? = some y:=by rw[←Array.getElem?_toList];exact Ye
    have ad0:(part f.type xs f.offset).run P w = .ok x w:=by simp[part,xe br,U,X0]
    have ad1:(part f.type ys f.offset).run P w = .ok y w:=by simp[part,xe br,U,Yf]
    have Ke:∃q:Bool,(Op.equalIn (d+1) f.type x y).run P w = .ok q w∧(q=true↔x=y):=by
     cases k with
     | i =>
      obtain⟨a,rfl⟩:=aw.1;obtain⟨b,rfl⟩:=cB.1;have aK:=ib.adg hk;subst aK;exact⟨_,run_equalIn_int w d f.type .i64 .i64 a b hu,by simp⟩
     | b =>
      obtain⟨a,rfl⟩:=aw.1;obtain⟨b,rfl⟩:=cB.1;have aK:=ib.adf hk;subst aK;exact⟨_,run_equalIn_bool' w d f.type a b hu,by simp⟩
     | s =>
      obtain⟨a,rfl⟩:=aw.1;obtain⟨b,rfl⟩:=cB.1;have aK:=ib.adi hk;subst aK;exact⟨_,run_equalIn_string w d f.type a b hu,by rw[←beq_toListBytes];simp⟩
    obtain⟨q,aF,Jj⟩:=Ke;refine⟨q&&r,?_,?_⟩
    ·simp only[Op.eqFields,h1,ne_eq,not_false_eq_true,if_true,Sem.run_bind,ad0,ad1,aF,Result.andThen_ok];cases q
     ·simp
     ·simpa using bk
    ·rw[PI,PJ] at QX;simp only[Bool.and_eq_true,Jj,QX,List.cons.injEq]
theorem ae2{P:Program}{t:TypeId}{sig:List ib}(h:HR P t sig=true)(w:World){xs ys:List Value}(aw:sa sig xs)(cB:sa sig ys)(x y:Operand) :
  ∃r:Bool,(r=true↔xs=ys)∧∀w,(do eqGuard .eql t x y (.agg xs.toArray) (.agg ys.toArray);binOp .eql t (.agg xs.toArray) (.agg ys.toArray):Sem Value).run P w = .ok (.bool r) w ∧
   (do eqGuard .neq t x y (.agg xs.toArray) (.agg ys.toArray);binOp .neq t (.agg xs.toArray) (.agg ys.toArray):Sem Value).run P w = .ok (.bool (!r)) w:=by
 unfold HR at h;cases hu:P.underlying t with
 | none=>rw[hu] at h;cases h
 | some pO =>
  cases pO<;>simp[hu] at h;rename_i fK;obtain⟨⟨h1,U⟩,ai⟩:=h;have QT:P.fieldsOf t=fK:=by simp[Program.fieldsOf,hu]
  have key:∀w,∃r:Bool,(Op.equalIn 10000 t (.agg xs.toArray) (.agg ys.toArray)).run P w = .ok r w∧(r=true↔xs=ys):=fun w=>by
   obtain⟨r,bk,ad⟩:=PB (P:=P) w 9998 xs.toArray ys.toArray fK.toList sig 0 ai (by simpa using aw) (by simpa using cB);refine⟨r,?_,by simpa using ad⟩;rw[run_equalIn_struct w 9999 t _ _ (by rw[QT];exact hu) h1,QT];exact bk
  obtain⟨r,_,ad⟩:=key w;refine⟨r,ad,fun w'=>?_⟩;obtain⟨hb,wB,cN⟩:=key w'
  have:hb=r:=by
   rcases Bool.eq_false_or_eq_true r with e | e
   ·rw[e];exact cN.2 (ad.1 e)
   ·rw[e];exact Bool.eq_false_iff.2 fun h=>by rw[ad.2 (cN.1 h)] at e;cases e
  subst this;refine⟨?_,?_⟩
  ·simp only[Sem.run_bind,run_eqGuard_agg w' .eql t x y _ _ U,Result.andThen_ok,run_eql_struct,wB]
  ·simp only[Sem.run_bind,run_eqGuard_agg w' .neq t x y _ _ U,Result.andThen_ok,run_neq_struct,wB]
section
variable{P:Program}{aE:Value→Prop}{cZ c9:Operand}
theorem K.ac0{t:TypeId}{sig:List ib}{xs ys:List Value}{rN}(h:HR P t sig=true)(aw:sa sig xs)(cB:sa sig ys)(hk:∀r:Bool,(r=true↔xs≠ys)→aE (.bool r)):gv P .neq t cZ c9 (.agg xs.toArray) (.agg ys.toArray) aE rN:=by
 obtain⟨r,h1,U⟩:=ae2 h default aw cB cZ c9;exact K.bin (fun w=>(U w).2) (hk (!r) (by rw[ne_eq,←h1];cases r<;>simp))
theorem K.XW{t e:TypeId}{a:Option Addr}{l c:Nat}{rN}(h:P.underlying t=some (.slice e))(hk:aE (.bool a.isNone)):gv P .eql t cZ c9 (.slice a l c) (.slice none 0 0) aE rN :=
 K.bin (v:=.bool a.isNone) (fun w=>by simp[eqGuard_at_slice,binOp,run_equal_slice_nil w t e a l c h]) hk
end
end bt
end
section
namespace bt
open Go Go.RowKit
section
variable{P:Program}{w0 w:World}{S:Fr}{K:Fr→World→Prop}
def strip:eE→List Step×eE
 | .take s r=>(s :: (strip r).1,(strip r).2)
 | t=>([],t)
theorem Dk:∀(t:eE) (S:Fr),qJ P (strip t).1 S w0 (fun a1=>mE P w0 (strip t).2 a1 w K)→mE P w0 t S w K
 | .take ⟨d,none,i⟩ r,S,h=>by
  show k0 P i S w0 fun v=>mE P w0 r (put S d v) w K;have bA:k0 P i S w0 fun v=>qJ P (strip r).1 (put S d v) w0 (fun a1=>mE P w0 (strip r).2 a1 w K):=h;exact k0.mono (fun v aU=>Dk r _ aU) bA
 | .take ⟨d,some (j,b),i⟩ r,S,h=>by
  rcases h with ⟨t,aK,h1,U⟩ | ⟨hu,ai⟩
  ·exact .inl ⟨t,aK,fun e=>k0.mono (fun v aU=>Dk r _ aU) (h1 e),fun e=>Dk r _ (U e)⟩
  ·exact .inr ⟨hu,Dk r _ ai⟩
 | .done,S,h=>h
 | .nil,S,h=>h
 | .alt _ _ _,S,h=>h
 | .b0 _ _ _,S,h=>h
 | .wide _,S,h=>h
theorem Un{b n:Nat}{c cs:Array Value}{e:TypeId}{gR:World→Prop}(aD:w.heap[b]? = some (.cells c e))(av:c.size=n)(aN:cs.size=n)(h1:∀x∈cs.toList,x.oneCell'=true)
  (hk:∀w1,dH b w w1→w1.heap[b]? = some (.cells cs e)→gR w1):xM n (.pointer (some ⟨b,0,none⟩)) (.agg cs) w gR :=
 KR aN (fun j aT=>⟨⟨_,fi aD (Array.getElem?_eq_getElem (by omega))⟩,by rw[add_eq];simp[World.frozen?,aD]⟩) h1 (hk _ (dH.mD cs.toList w ⟨b,0,none⟩ 0) (T7 aD (by omega)))
structure qW where
 d:Nat
 ty:TypeId
 z:Array Value
 n:Nat
 x:Nat
def qW.new(v:qW):Step:=⟨some v.d,none,.e (.new v.ty (.agg v.z))⟩
def qW.st(v:qW):Step:=⟨none,none,.e (.qL v.n (.tmp v.d) (.tmp v.x))⟩
theorem VM(v:qW)(k:Fr→World→Prop):Ao P w0 v.st S w k=xM v.n (S v.d) (S v.x) w (fun w'=>Ext w0 w'∧k S w'):=rfl
theorem Yx(v:qW)(k:Fr→World→Prop):mW P v.st S w k=xM v.n (S v.d) (S v.x) w (fun w'=>k S w'):=rfl
def UD(a b:qW):eE :=
 .alt a.new (.alt b.new (.alt a.st (.b0 b.st .done .nil) .nil) .nil) (.alt b.new (.alt a.new (.alt a.st (.b0 b.st .done .nil) .nil) .nil) .nil)
theorem agc(S:Fr){a b:Nat}(h:a≠b)(x y:Value):b5 (b5 S a x) b y=b5 (b5 S b y) a x:=by
 funext t;unfold b5;split<;>split<;>simp_all
theorem af7(a b:qW){mb mF:List Value}(bs:(a.d != b.d&&a.x != a.d&&a.x != b.d&&b.x != a.d&&b.x != b.d)=true)(JB:a.z.size=a.n)(JC:b.z.size=b.n)(br:S a.x = .agg mb.toArray)(aD:S b.x = .agg mF.toArray)(aal:mb.length=a.n)(Ra:mF.length=b.n)
  (YV:∀u∈mb,u.oneCell'=true)(YW:∀u∈mF,u.oneCell'=true)
  (hk:∀w' gx fN,Ext w0 w'→w0.heap.size≤gx→w0.heap.size≤fN→gx≠fN→w'.heap[gx]? = some (.cells mb.toArray a.ty)→w'.heap[fN]? = some (.cells mF.toArray b.ty) →
   K (b5 (b5 S a.d (.pointer (some ⟨gx,0,none⟩))) b.d (.pointer (some ⟨fN,0,none⟩))) w'):mE P w0 (UD a b) S w0 K:=by
 simp only[Bool.and_eq_true,bne_iff_ne,ne_eq] at bs;obtain⟨⟨⟨⟨d1,d2⟩,d3⟩,d4⟩,d5⟩:=bs;have fin:∀(a1:Fr) (aR:World) (gx fN:Nat),a1=b5 (b5 S a.d (.pointer (some ⟨gx,0,none⟩))) b.d (.pointer (some ⟨fN,0,none⟩))→Ext w0 aR→w0.heap.size≤gx→w0.heap.size≤fN→gx≠fN →
   aR.heap[gx]? = some (.cells a.z a.ty)→aR.heap[fN]? = some (.cells b.z b.ty)→mE P w0 (.alt a.st (.b0 b.st .done .nil) .nil) a1 aR K:=by
  rintro a1 aR gx fN rfl he h1 U dc Bh mr;refine⟨?_,trivial⟩;have bT:b5 (b5 S a.d (.pointer (some ⟨gx,0,none⟩))) b.d (.pointer (some ⟨fN,0,none⟩)) a.d = .pointer (some ⟨gx,0,none⟩):=by simp[b5,d1]
  have bg:b5 (b5 S a.d (.pointer (some ⟨gx,0,none⟩))) b.d (.pointer (some ⟨fN,0,none⟩)) a.x = .agg mb.toArray:=by simp[b5,d2,d3,br]
  have bO:b5 (b5 S a.d (.pointer (some ⟨gx,0,none⟩))) b.d (.pointer (some ⟨fN,0,none⟩)) b.d = .pointer (some ⟨fN,0,none⟩):=by simp[b5]
  have b8:b5 (b5 S a.d (.pointer (some ⟨gx,0,none⟩))) b.d (.pointer (some ⟨fN,0,none⟩)) b.x = .agg mF.toArray:=by simp[b5,d4,d5,aD]
  rw[VM,bT,bg];refine Un Bh JB (by simpa using aal) (by simpa using YV) fun ba eV bG=>⟨eV.ext he h1,?_⟩;refine⟨?_,trivial⟩;rw[Yx,bO,b8];refine Un (eV.obj mr (Ne.symm dc)) JC (by simpa using Ra) (by simpa using YW) fun bo ed bJ=>?_;exact hk bo gx fN (ed.ext (eV.ext he h1) U) h1 U dc (ed.obj bG dc) bJ
 have m1:∀(aq o':Obj),((w0.alloc aq).alloc o').heap[w0.heap.size]? = some aq:=fun aq o'=>((Ext.refl (w0.alloc aq)).alloc o').obj (heap_alloc_new w0 aq);have m2:∀(aq o':Obj),((w0.alloc aq).alloc o').heap[w0.heap.size+1]? = some o':=fun aq o'=>by
  have:=heap_alloc_new (w0.alloc aq) o'
  rwa[World.size_alloc] at this
 refine⟨⟨(Ext.refl _).alloc _,⟨((Ext.refl _).alloc _).alloc _,?_⟩,trivial⟩,⟨(Ext.refl _).alloc _,⟨((Ext.refl _).alloc _).alloc _,?_⟩,trivial⟩,trivial⟩
 ·refine fin _ _ w0.heap.size (w0.heap.size+1) ?_ (((Ext.refl _).alloc _).alloc _) (Nat.le_refl _) (by omega) (by omega) (m1 _ _) (m2 _ _);show b5 (b5 S a.d _) b.d (.pointer (some ⟨(w0.alloc _).heap.size,0,none⟩))=_;rw[World.size_alloc]
 ·refine fin _ _ (w0.heap.size+1) w0.heap.size ?_ (((Ext.refl _).alloc _).alloc _) (by omega) (Nat.le_refl _) (by omega) (m2 _ _) (m1 _ _);show b5 (b5 S b.d _) a.d (.pointer (some ⟨(w0.alloc _).heap.size,0,none⟩))=_;rw[World.size_alloc,agc S (Ne.symm d1)]
theorem K.two{Q:dM→Fr→World→Prop}{t:eE}{mS:eS}{rN}(l:List Step)(ph:Nat)(KV:TypeId)(DA:Array Value)(j1 xa yj:Nat)(vb:TypeId)(DB:Array Value)(iG xb:Nat)(aK:strip t=(l,UD ⟨ph,KV,DA,j1,xa⟩ ⟨yj,vb,DB,iG,xb⟩))(bs:(ph != yj&&xa != ph&&xa != yj&&xb != ph&&xb != yj)=true)(JB:DA.size=j1)(JC:DB.size=iG)
  (hk:∀w1,Ext w w1→kV P l S w1 (fun a1 => ∃mb mF:List Value,a1 xa = .agg mb.toArray∧a1 xb = .agg mF.toArray∧mb.length=j1∧mF.length=iG∧(∀u∈mb,u.oneCell'=true)∧(∀u∈mF,u.oneCell'=true) ∧
   ∀w' gx fN,Ext w1 w'→w1.heap.size≤gx→w1.heap.size≤fN→gx≠fN→w'.heap[gx]? = some (.cells mb.toArray KV)→w'.heap[fN]? = some (.cells mF.toArray vb) →
    dQ P mS Q (b5 (b5 a1 ph (.pointer (some ⟨gx,0,none⟩))) yj (.pointer (some ⟨fN,0,none⟩))) w' ⟨⟩) ⟨⟩):dQ P (.seq (.dU t) mS) Q S w rN:=by
 unfold dQ kV at *;show dL P (.dU t) _ S w;intro w1 he;refine Dk t S ?_;have h:=hk w1 he;rw[aK];refine zq l S w1 _ _ (fun a1 _ bA=>?_) h;obtain⟨mb,mF,h1,U,ai,aL,bn,bL,b7⟩:=bA;exact af7 ⟨ph,KV,DA,j1,xa⟩ ⟨yj,vb,DB,iG,xb⟩ bs JB JC h1 U ai aL bn bL fun w' gx fN bT bg bO b8 ca c0=>b7 w' gx fN bT bg bO b8 ca c0
def iw(w0 w w':World)(p:World→Prop):Prop := ∀bY,Ext w0 bY→w'.heap.size≤bY.heap.size→(∀k,w.heap.size≤k→k<w'.heap.size→bY.heap[k]? = w'.heap[k]?)→p bY
structure agP(w0:World)(a b:qW)(S:Fr)(xa xb:List Value→World→Prop)(hF vR j1 iG:Bool)(a1:Fr)(w:World)(mb mF:List Value)(nZ br hx aD s7 s8:Nat):Prop where
 ext:Ext w0 w
 ml:∀t,t≠a.d→t≠b.d→t≠a.x→t≠b.x→a1 t=S t
 dy:hF=true→a1 a.x = .agg mb.toArray∧mb.length=a.n∧(∀u∈mb,u.oneCell'=true)∧br≤w.heap.size∧∀bY,Ext w0 bY→w.heap.size≤bY.heap.size→(∀k,nZ≤k→k<br→bY.heap[k]? = w.heap[k]?)→xa mb bY
 bz:vR=true→a1 b.x = .agg mF.toArray∧mF.length=b.n∧(∀u∈mF,u.oneCell'=true)∧aD≤w.heap.size∧∀bY,Ext w0 bY→w.heap.size≤bY.heap.size→(∀k,hx≤k→k<aD→bY.heap[k]? = w.heap[k]?)→xb mF bY
 a2:j1=true→a1 a.d = .pointer (some ⟨s7,0,none⟩)∧w0.heap.size≤s7∧s7<w.heap.size∧w.heap[s7]? = some (.cells a.z a.ty)
 b4:iG=true→a1 b.d = .pointer (some ⟨s8,0,none⟩)∧w0.heap.size≤s8∧s8<w.heap.size∧w.heap[s8]? = some (.cells b.z b.ty)
 qX:hF=true→j1=true→s7<nZ∨br≤s7
 tL:hF=true→iG=true→s8<nZ∨br≤s8
 gx:vR=true→j1=true→s7<hx∨aD≤s7
 fN:vR=true→iG=true→s8<hx∨aD≤s8
 ai2:j1=true→iG=true→s7≠s8
structure agO(a b:qW):Prop where
 d12:a.d≠b.d
 d13:a.d≠a.x
 d14:a.d≠b.x
 d23:b.d≠a.x
 d24:b.d≠b.x
 d34:a.x≠b.x
end
end bt
end
section
namespace bt
open Go Go.RowKit
theorem K.wide{P:Program}{w1 w:World}{S:Fr}{t:eE}{K:Fr→World→Prop}{rN}(h:∃C:World→Prop,C w∧dx P C t S w K):fa P w1 (.wide t) S w K rN:=by
 unfold fa;exact h
section
variable{P:Program}{C:World→Prop}{S:Fr}{w:World}{K:Fr→World→Prop}
theorem dx.hF{k d x:Nat}{r:eE}{a:Addr}(aw:S x = .pointer (some a))(h:dx P C r (b5 S d (.pointer (some (a.add k)))) w K):dx P C (.take ⟨some d,none,.p (.hF k (.tmp x))⟩ r) S w K:=⟨a,aw,h⟩
theorem dx.ld{d x:Nat}{r:eE}{a:Addr}{v:Value}(aw:S x = .pointer (some a))(aU:∀w,C w→w.cell? a=some v)(h:dx P C r (b5 S d v) w K):dx P C (.take ⟨some d,none,.r (.ld (.tmp x))⟩ r) S w K :=
 ⟨v,fun w hw=>⟨a,v,aw,aU w hw,rfl⟩,h⟩
theorem dx.xR{s:Step}{r:eE}(h:ke P C s S w fun S w=>dx P C r S w K):dx P C (.alt s r .nil) S w K:=⟨h,trivial⟩
theorem dx.vV{s:Step}{r:eE}(h:mW P s S w fun S w=>dx P C r S w K):dx P C (.b0 s r .nil) S w K:=⟨h,trivial⟩
end
theorem ke.e{P:Program}{C:World→Prop}{i:pV}{d:Nat}{S:Fr}{w:World}{k:Fr→World→Prop}(h:lH P i S w fun v w'=>C w'∧k (put S (some d) v) w'):ke P C ⟨some d,none,.e i⟩ S w k:=h
theorem mW.e{P:Program}{i:pV}{d:Nat}{S:Fr}{w:World}{k:Fr→World→Prop}(h:lH P i S w fun v w'=>k (put S (some d) v) w'):mW P ⟨some d,none,.e i⟩ S w k:=h
theorem VQ{P:Program}{ty e:TypeId}{sz b:Nat}{s x:Value}{w:World}{K:Value→World→Prop}(h:∀t,j5 P ty e sz b s x w K t):vd P ty e sz b s x w K:=by
 have:=h ⟨⟩
 unfold j5 at this;exact this
theorem KS{x v:Value}{w:World}{K:World→Prop}(h:∀t,qV x v w K t):vw x v w K:=by
 have:=h ⟨⟩
 unfold qV at this;exact this
abbrev cf(s:Option Addr×Nat×Nat):Value:=.slice s.1 s.2.1 s.2.2
def dg{β:Type}(f:Nat→β)(i:Nat)(v:β):Nat→β:=fun j=>if j=i then v else f j
theorem F1{β:Type}(f:Nat→β)(i:Nat)(v:β):dg f i v i=v:=by simp[dg]
theorem CW{β:Type}(f:Nat→β){i j:Nat}(v:β)(h:j≠i):dg f i v j=f j:=by simp[dg,h]
structure hl{α:Type}(enc:α→List Value)(e:TypeId)(sz base:Nat)(w:World)(n:Nat)(vs:Nat→Option Addr×Nat×Nat)(xs:Nat→List α):Prop where
 own:∀i,i<n→bp enc e sz base w (cf (vs i)) (xs i)
 apart:∀i j k,i<n→j<n→i≠j→(cf (vs i)).ownBlock=some k→(cf (vs j)).ownBlock≠some k
section
variable{α:Type}{enc:α→List Value}{e:TypeId}{sz base n:Nat}{w w':World}{vs:Nat→Option Addr×Nat×Nat}{xs:Nat→List α}
theorem hl.mod{A:Nat→Prop}(h:hl enc e sz base w n vs xs)(m:Mod A w w')(eC:∀i k,i<n→(cf (vs i)).ownBlock=some k→¬A k):hl enc e sz base w' n vs xs :=
 ⟨fun i ad=>(h.own i ad).mod m (eC i · ad),h.apart⟩
theorem hl.ext(h:hl enc e sz base w n vs xs)(m:Ext w w'):hl enc e sz base w' n vs xs:=h.mod (A:=fun _=>False) m.mod fun _ _ _ _ a=>a
theorem hl.not(h:hl enc e sz base w n vs xs){k:Nat}{c:Array Value}{t:TypeId}(hk:w.heap[k]? = some (.cells c t))(aK:t≠e):∀i,i<n→(cf (vs i)).ownBlock≠some k:=fun i ad he=>by
 obtain⟨cur,U⟩:=(h.own i ad).aV k he;rw[hk] at U;injection U with U;injection U with _ U;exact aK U
theorem hl.lt(h:hl enc e sz base w n vs xs):∀i k,i<n→(cf (vs i)).ownBlock=some k→base≤k∧k<w.heap.size:=fun i k ad he=>(h.own i ad).lt k he
theorem hl.app{P:Program}{cY:Value→World→Prop}{ty:TypeId}{b:Nat}{a:Addr}{c:Nat}{y:α}(i:Nat)(ad:i<n)(h:hl enc e sz base w n vs xs)(c3:∀x,(enc x).length=sz)(av:fb w a (enc y))(h1:∀y,∀u∈enc y,u.oneCell'=true)
  (aD:((xs i).length+1)*b≤140737488355328)(jo:(xs i).length+1≤maxLen)(iB:base≤w.heap.size)
  (hk:∀b3 w',hl enc e sz base w' n (dg vs i b3) (dg xs i (xs i++[y]))→w.grownBy w' (cf (vs i)).ownBlock→b3.2.1=(xs i).length+1→cY (cf b3) w'):vd P ty e sz b (cf (vs i)) (.slice (some a) 1 c) w cY:=by
 refine VQ fun t=>K.tM (ys:=[y]) (h.own i ad) c3 (by simpa using av) rfl h1 aD jo iB fun b3 w' a8 a6 jq=>?_;obtain⟨bh,cap,rfl,_⟩:=a8.form;refine hk (bh,(xs i++[y]).length,cap) w' ⟨fun j aT=>?_,fun j JK k aT ef dc he=>?_⟩ a6 (by simp)
 ·by_cases gm:j=i
  ·subst gm;rw[F1,F1];exact a8
  ·rw[CW _ _ gm,CW _ _ gm];exact(h.own j aT).mod (A:=fun k=>(cf (vs i)).ownBlock=some k) (Mod.grown a6 fun k hk=>hk) fun k hk a=>h.apart j i k aT ad gm hk a
 ·have key:∀q,q<n→q≠i→∀k,(cf (vs q)).ownBlock=some k→(Value.slice bh (xs i++[y]).length cap).ownBlock≠some k:=fun q aF Jj k hk he=>by
   rcases jq with e | e
   ·rw[e] at he;exact h.apart q i k aF ad Jj hk he
   ·rw[e] at he;injection he with he;have:=(h.lt q k aF hk).2;omega
  by_cases gm:j=i
  ·subst gm;rw[F1] at he;rw[CW _ _ (Ne.symm dc)];exact fun U=>key JK ef (Ne.symm dc) k U he
  ·rw[CW _ _ gm] at he;by_cases Q5:JK=i
   ·subst Q5;rw[F1];exact key j aT gm k he
   ·rw[CW _ _ Q5];exact h.apart j JK k aT ef dc he
end
end bt
end
section
namespace bt
open Go Go.RowKit
theorem bB.sub{α:Type}{sz:Nat}{R:World→Addr→α→Prop}{w:World}{bh:Option Addr}{n c:Nat}{xs:List α}(h:bB sz R w (.slice bh n c) xs)(l u:Nat)(aQ:l≤u)(hu:u≤xs.length) :
  bB sz R w (.slice (if c=l then bh else bh.map (·.add (l*sz))) (u - l) (c - l)) ((xs.drop l).take (u - l)) :=
 (h.tail l (by omega)).head (u - l) (by rw[List.length_drop];omega)
section
variable{P:Program}{aE:Value→Prop}{S:Fr}{w:World}
theorem K.Ga{α:Type}{sz n cap:Nat}{R:World→Addr→α→Prop}{bh:Option Addr}{x y:Operand}{k k':IntKind}{xs:List α}{t}(l u:Nat)(ay:bB sz R w (.slice bh n cap) xs)(aw:a7 S x = .int k (l:Int))(cB:a7 S y = .int k' (u:Int))(aQ:l≤u)(hu:u≤xs.length)
  (hk:∀aq c,bB sz R w (.slice aq (u - l) c) ((xs.drop l).take (u - l))→aE (.slice aq (u - l) c)):r0 S sz (.slice bh n cap) (some x) (some y) none aE t:=by
 obtain⟨bT,bg,bO⟩:=ay.len;refine K.iH l u cap (by simp[fE,aw]) (by simp[fE,cB]) (by simp[fE]) ⟨aQ,by omega,Nat.le_refl _⟩ (by simp) ?_;exact hk _ _ (ay.sub l u aQ hu)
theorem K.aco{b i j:Nat}{c:List Value}{ty:TypeId}{f:Nat×Nat}{v:Value}{w0:World}{t}(aD:w0.heap[b]? = some (.cells c.toArray ty f))(he:Ext w0 w)(aT:c[i+j]? = some v)(hk:aE v):o7 (.pointer (some ((Addr.add ⟨b,0,none⟩ i).add j))) w aE t:=by
 rw[add_add];exact K.rB aD he aT hk
end
theorem an{A B:Prop}(k:B)(h:tz B→A:=by
 intro q
 (repeat' first
 | assumption
 | exact Ext.refl _
 | refine Ext.trans ?_ (by assumption)
 | simp -dsimp only[cI,cu,Nat.reduceAdd,Nat.reduceEqDiff,reduceIte,reduceCtorEq,cS,ti,th,sR,sQ,sm,sl,List.cons_append,List.nil_append]
 | refine K.wrap (by omega) ?_
 | refine K.rB (by assumption) ?_ rfl ?_
 | refine K.pC (by assumption) ?_ rfl ?_
 | refine K.sN (by omega) ?_
 | refine K.r9 (by first | assumption | omega) ?_
 | refine K.r8 (by first | assumption | omega) ?_
 | refine K.qe (by assumption) ?_
 | refine K.qd (by assumption) ?_
 | refine K.sU (by assumption) ?_ (by omega) rfl ?_
 | refine K.sV (by assumption) ?_ (by omega) rfl ?_
 | refine K.sT (by assumption) ?_ (by omega) rfl ?_
 | refine K.aco (by assumption) ?_ rfl ?_
 | refine K.JU (by assumption) ?_ rfl ?_
 | refine K.JT (by assumption) ?_ rfl ?_
 | refine K.gg (by assumption) ?_ rfl ?_
 | refine K.rE (fun _=>by (simp -dsimp only[cI,Nat.reduceAdd,Nat.reduceEqDiff,reduceIte,reduceCtorEq,cS]);rfl) rfl rfl (by first | assumption | (simp[Value.oneCell',o.cW.enc,o.Ref.enc,o.Node.enc,o.Scalar.enc,o.Var.enc,o.c4.enc,o.Act.enc,o.dD.enc,o.dj.enc,o.kb.enc];done)) ?_
 | refine K.new ?_
 | refine K.kW (by assumption) rfl rfl (by first | assumption | (simp[Value.oneCell',o.cW.enc,o.Ref.enc,o.Node.enc,o.Scalar.enc,o.Var.enc,o.c4.enc,o.Act.enc,o.dD.enc,o.dj.enc,o.kb.enc];done)) ?_
 | refine K.st1 (by assumption) (Nat.le_of_ble_eq_true rfl) rfl ?_
 | refine K.rL (by assumption) (Nat.le_of_ble_eq_true rfl) rfl ?_
 | refine K.kg (by (simp only[ey,lay,nC,fr,cb,Value.cells,Nat.reduceAdd,Nat.reduceEqDiff,reduceIte,List.range,List.range.loop,List.map_cons,List.map_nil]);rfl) ?_
 | refine K.cA (by (simp only[ey,lay,nC,fr,cb,Value.cells,Nat.reduceAdd,Nat.reduceEqDiff,reduceIte]);rfl) ?_)
 exact q.out):A:=h ⟨k⟩
end bt
end
section
namespace o
open Go
structure Scope where
 scalars:List Scalar
 vars:List Var
 aH:List c4
 procs:List dj
 locals:List Var
 self:Int
structure Env where
 vars:List (List Int)
 lens:List Int
 locals:List Int
 at_:List (List Int)
 self:Int
def nth{α:Type}(l:List α)(n:Int):Option α:=if 0≤n then l[n.toNat]? else none
theorem h0{α:Type}{l:List α}{n:Int}(h:0≤n)(U:n<l.length):nth l n=some (l[n.toNat]'(by omega)):=by
 unfold nth;rw[if_pos h,List.getElem?_eq_getElem]
theorem gK{α:Type}{l:List α}{n:Int}(h:n<0∨(l.length:Int)≤n):nth l n=none:=by
 unfold nth;split
 ·rw[List.getElem?_eq_none (by omega)]
 ·rfl
def within(n:Int):Bool:=decide (-1048576≤n∧n≤1048576)
def tell(f:Int→Int→Int)(a b:Int):Int×Bool:=if within a&&within b&&within (f a b) then (f a b,true) else (0,false)
def bit(b:Bool):Int:=if b then 1 else 0
def e9(op:Int):Int:=if op=3 then 1 else if 1≤op∧op≤8 then 0 else if op=9∨op=10 then 1 else if 11≤op∧op≤19 then 2 else -1
def yU(op:Int):Bool:=decide (9≤op∧op≤19)
structure om where
 parts:Int
 h4:Int
 makes:Int
 Pb:Int→Int→Int×Bool
def xf(h4:Int)(p:Int→Int→Bool):om:=⟨2,h4,1,fun a b=>(bit (p a b),true)⟩
def gn(x:Int):Option om :=
 if x=9 then some ⟨1,1,1,fun a _=>(bit (decide (a=0)),true)⟩
 else if x=10 then some ⟨1,0,0,fun a _=>tell (· - ·) 0 a⟩
 else if x=11 then some ⟨2,0,0,tell (· + ·)⟩
 else if x=12 then some ⟨2,0,0,tell (· - ·)⟩
 else if x=13 then some ⟨2,0,0,tell (· * ·)⟩
 else if x=14 then some (xf (-1) fun a b=>decide (a=b))
 else if x=15 then some (xf (-1) fun a b => !decide (a=b))
 else if x=16 then some (xf 0 fun a b=>decide (a<b))
 else if x=17 then some (xf 0 fun a b=>decide (a≤b))
 else if x=18 then some (xf 1 fun a b => !decide (a=0) && !decide (b=0))
 else if x=19 then some (xf 1 fun a b => !decide (a=0) || !decide (b=0))
 else none
theorem S3{x:Int}(h:yU x=false):gn x=none:=by
 have bA:¬(9≤x∧x≤19):=by simpa[yU] using h
 unfold gn
 repeat rw[if_neg (by omega)]
theorem CP{x:Int}{aq:om}(h:gn x=some aq):aq.parts=e9 x∧yU x=true:=by
 unfold gn at h
 repeat' split at h
 all_goals first | (cases h;subst_vars;decide) | cases h
def stepG(f:Node→List Int→Int×Int)(x:Node)(st:List Int):Int×List Int :=
 if e9 x.op<0 then (3,st) else if (st.length:Int)<e9 x.op then (4,st)
 else if (f x st).2≠0 then ((f x st).2,st)
 else if (st.take (st.length - (e9 x.op).toNat)++[(f x st).1]).length > 12 then (12,st) else (0,st.take (st.length - (e9 x.op).toNat)++[(f x st).1])
def gh(f:Node→List Int→Int×Int):List Node→List Int→Int×List Int
 | [],st=>(0,st)
 | x :: r,st=>if (stepG f x st).1≠0 then stepG f x st else gh f r (stepG f x st).2
def lx(f:Node→List Int→Int×Int)(e:List Node):Int×Int :=
 if e.length > 24 then (0,5) else if e.length=0 then (0,4)
 else if (gh f e []).1≠0 then (0,(gh f e []).1) else if (gh f e []).2.length > 1 then (0,5) else ((gh f e []).2.headD 0,0)
theorem KH(f:Node→List Int→Int×Int):∀(a b:List Node) (st:List Int),gh f (a++b) st=if (gh f a st).1≠0 then gh f a st else gh f b (gh f a st).2
 | [],b,st=>by simp[gh]
 | x :: a,b,st=>by
  simp only[List.cons_append,gh];by_cases h:(stepG f x st).1=0
  ·simp only[h,ne_eq,not_true_eq_false,if_false];exact KH f a b _
  ·simp[h]
theorem C7{f:Node→List Int→Int×Int}{e:List Node}{k:Nat}{st:List Int}(hk:k<e.length)(h:gh f (e.take k) []=(0,st)):gh f (e.take (k+1)) []=stepG f e[k] st:=by
 rw[List.take_succ_eq_append_getElem hk,KH,h];simp only[ne_eq,not_true_eq_false,if_false,gh];split
 ·rfl
 ·rename_i U;simp at U;exact Prod.ext U.symm rfl
theorem TR{f:Node→List Int→Int×Int}{e:List Node}{k:Nat}{q:Int×List Int}(h:gh f (e.take k) []=q)(aj:q.1≠0):gh f e []=q:=by
 have:=KH f (e.take k) (e.drop k) []
 rw[List.take_append_drop,h,if_pos aj] at this;exact this
theorem KG{f:Node→List Int→Int×Int}{e:List Node}(sj:e.length≤24){k:Nat}(hk:k<e.length){st:List Int}(h:gh f (e.take k) []=(0,st))(aj:(stepG f e[k] st).1≠0):lx f e=(0,(stepG f e[k] st).1):=by
 have U:=C7 hk h;have ai:=TR U aj;unfold lx;rw[if_neg (by omega),if_neg (by omega),ai,if_pos aj]
theorem afM{f:Node→List Int→Int×Int}{x:Node}{st:List Int}(h:(stepG f x st).1=0):1≤(stepG f x st).2.length∧(stepG f x st).2.length≤12:=by
 unfold stepG at h ⊢
 repeat' split
 all_goals simp_all
def gI(n:Int)(s:Scope):Int×Bool:=if n=0 then (0,true) else if n<0∨(s.scalars.length:Int)<n then (0,false) else (1+n,true)
def fj(l:List Var)(n:Int)(s:Scope):Int×Int×Bool :=
 match nth l n with
 | some v=>((gI v.scalar s).1,(gI v.over s).1,(gI v.scalar s).2&&(gI v.over s).2)
 | none=>(0,0,false)
def iE(n:Int)(s:Scope):Int×Int:=match nth s.aH n with | some c=>if (gI c.scalar s).2 then (0,0) else (0,8) | none=>(0,8)
def yY(n:Int)(s:Scope):Int×Int:=if 0≤n then (match nth s.procs (n.tdiv 16) with | some p=>if n.tmod 16<p.cz then (0,0) else (0,8) | none=>(0,8)) else (0,8)
def kT(x:Node)(s:Scope):Int×Int :=
 if x.op=5 then (if 1≤s.self∧s.self≤s.scalars.length then (1+s.self,0) else (0,8))
 else if x.op=6 then iE x.n s
 else if x.op=7 then yY x.n s
 else if x.op=8 then (if 0≤x.n∧x.n<s.scalars.length then (2+x.n,0) else (0,8))
 else (0,8)
def iq(x:Node)(s:Scope)(top:Int):Int×Int :=
 if x.op=1 then (if within x.n then (0,0) else (0,10))
 else if x.op=2∨x.op=3∨x.op=4 then
  (let q:=fj (if x.op=4 then s.locals else s.vars) x.n s
   if q.2.2=false then (0,8) else if (x.op=3∧(q.2.1=0∨top≠q.2.1))∨(x.op≠3∧q.2.1≠0) then (0,9) else (q.1,0))
 else kT x s
def l2(aq:om)(l:List Int):Int×Int:=if l.all (fun k=>(decide (aq.h4 = -1)||decide (k=aq.h4))&&decide (k=l.headD 0)) then (aq.makes,0) else (0,9)
def fP(s:Scope)(x:Node)(st:List Int):Int×Int :=
 match gn x.op with
 | some aq=>l2 aq (st.drop (st.length - aq.parts.toNat))
 | none=>iq x s (st.getLastD 0)
def kind(e:List Node)(s:Scope):Int×Int:=lx (fP s) e
def j3(l:List Int)(n:Int):Int×Int:=match nth l n with | some x=>(x,0) | none=>(0,8)
def jc(x:Node)(v:Env)(top:Int):Int×Int :=
 if x.op=1 then (if within x.n then (x.n,0) else (0,10))
 else if x.op=2 then (match nth v.vars x.n with | some l=>j3 l 0 | none=>(0,8))
 else if x.op=3 then (match nth v.vars x.n with | some l=>(match nth l (top - 1) with | some y=>(y,0) | none=>(0,10)) | none=>(0,8))
 else if x.op=4 then j3 v.locals x.n
 else if x.op=6 then j3 v.lens x.n
 else if x.op=5 then (v.self,0)
 else if x.op=7 then (if 0≤x.n then (match nth v.at_ (x.n.tdiv 16) with | some l=>j3 l (x.n.tmod 16) | none=>(0,8)) else (0,8))
 else (0,0)
def Lc(aq:om)(l:List Int):Int×Int:=let r:=aq.Pb (l.headD 0) (l.getLastD 0);if r.2 then (r.1,0) else (0,10)
def iz(v:Env)(x:Node)(st:List Int):Int×Int :=
 match gn x.op with
 | some aq=>Lc aq (st.drop (st.length - aq.parts.toNat))
 | none=>jc x v (st.getLastD 0)
def eval(e:List Node)(v:Env):Int×Int:=lx (iz v) e
def jH(scalar over:Int)(s:Scope):Int×Bool :=
 if scalar<0∨(s.scalars.length:Int)<scalar∨over<0∨(s.scalars.length:Int)<over then (0,false) else if scalar=0 then (0,true) else (1+scalar,true)
theorem afW{a b:Int}{s:Scope}(h:(jH a b s).2=false):(jH a b s).1=0:=by
 unfold jH at h ⊢;by_cases q:a<0∨(s.scalars.length:Int)<a∨b<0∨(s.scalars.length:Int)<b
 ·rw[if_pos q]
 ·rw[if_neg q] at h;by_cases dY:a=0
  ·rw[if_pos dY] at h;cases h
  ·rw[if_neg dY] at h;cases h
def declared(l:List Var)(n:Int)(s:Scope):Option (Var×Int) :=
 match nth l n with
 | some v=>if (jH v.scalar v.over s).2 then some (v,(jH v.scalar v.over s).1) else none
 | none=>none
theorem Xt{l:List Var}{n:Int}{s:Scope}{q:Var×Int}(h:declared l n s=some q):0≤q.1.over∧q.1.over≤s.scalars.length:=by
 unfold declared at h;cases aN:nth l n with
 | none=>rw[aN] at h;cases h
 | some v =>
  rw[aN] at h;simp only at h;by_cases aK:(jH v.scalar v.over s).2=true
  ·rw[if_pos aK] at h;unfold jH at aK;by_cases eb:v.scalar<0∨(s.scalars.length:Int)<v.scalar∨v.over<0∨(s.scalars.length:Int)<v.over
   ·rw[if_pos eb] at aK;cases aK
   ·injection h with h
    subst h;simp only;omega
  ·rw[if_neg aK] at h;cases h
def channel(n:Int)(s:Scope):Option Int :=
 match nth s.aH n with
 | some c=>if (jH c.scalar 0 s).2 then some (jH c.scalar 0 s).1 else none
 | none=>none
def asked(e:List Node)(k:Int)(s:Scope):Int:=if (kind e s).2≠0 then (kind e s).2 else if (kind e s).1≠k then 9 else 0
def gi(a:Act):Bool:=decide (a.kind=4∨a.kind=5)
def C5(a:Act)(k:Int)(s:Scope):Int:=match declared s.locals a.loc s with | some (v,k')=>if v.over≠0∨k'≠k then 9 else 0 | none=>8
def kC(a:Act)(s:Scope):Int :=
 if a.kind=1∨a.kind=2∨a.kind=3 then
  match declared (if a.kind=3 then s.locals else s.vars) a.to s with
  | none=>8
  | some (v,k) =>
   if (v.over≠0)≠(a.kind=2) then 9
   else if a.kind=2∧asked a.index (1+v.over) s≠0 then asked a.index (1+v.over) s
   else asked a.value k s
 else if a.kind=4∨a.kind=5 then
  match channel a.to s with
  | none=>8
  | some k=>if a.kind=5 then C5 a k s else asked a.value k s
 else 3
def head(c:dD)(cz:Int):Int :=
 if isName c.name=false then 6 else if c.from_<0∨cz≤c.from_∨c.to<0∨cz≤c.to then 10 else if c.b6.length > 6 then 11 else 0
def kd(s:Scope):List Act→Nat→Bool→Int×Int
 | [],_,_=>(0,0)
 | a :: r,i,t=>if gi a&&t then (2+i,7) else if kC a s≠0 then (2+i,kC a s) else kd s r (i+1) (t||gi a)
def ig(c:dD)(cz:Int)(s:Scope):Int×Int :=
 if head c cz≠0 then (0,head c cz) else if c.guard.length > 0∧asked c.guard 1 s≠0 then (1,asked c.guard 1 s) else kd s c.b6 0 false
def comm:List Act→Int×Int
 | []=>(0,0)
 | a :: r=>if gi a then (a.kind,a.to) else comm r
def ways(c:dD)(l:List c4):Int:=if (comm c.b6).1=4 then (match nth l (comm c.b6).2 with | some x=>if x.SG then 2 else 1 | none=>1) else 1
def inner(p:dj)(s:Scope):Scope:={ s with locals:=p.vars,self:=p.over }
def whole(p:dj)(s:Scope):Int :=
 if isName p.name=false then 6 else if p.over<0∨(s.scalars.length:Int)<p.over then 8 else if p.cz<1∨12<p.cz then 10 else if p.cJ.length > 12 then 11 else 0
def n0(s:Scope):List Var→Nat→Int×Int
 | [],_=>(0,0)
 | v :: r,i=>if v.over≠0 then (i,9) else if s.vars.any (fun x=>decide (x.name=v.name)) then (i,7) else n0 s r (i+1)
def jE(p:dj)(s:Scope):Int×Int:=if (vars p.vars s.scalars 4).2≠0 then vars p.vars s.scalars 4 else n0 s p.vars 0
def jP(own:Scope)(cz:Int)(all:List dD):List dD→Nat→Int×Int×Int
 | [],_=>(0,0,0)
 | c :: r,i=>if (ig c cz own).2≠0 then (2+(i:Int),(ig c cz own).1,(ig c cz own).2)
  else if (all.take i).any (fun x=>decide (x.name=c.name)) then (2+(i:Int),0,7) else jP own cz all r (i+1)
def gB(p:dj)(s:Scope):Int×Int×Int :=
 if whole p s≠0 then (0,0,whole p s) else if (jE p s).2≠0 then (1,(jE p s).1,(jE p s).2) else jP (inner p s) p.cz p.cJ p.cJ 0
def fI(m:Model):Scope:=⟨m.scalars,m.vars,m.aH,m.procs,[],0⟩
def gq(m:Model)(i:Int):Scope:=match nth m.procs i with | some p=>inner p (fI m) | none=>fI m
def elems(m:Model)(p:dj):Nat:=match nth m.scalars (p.over - 1) with | some s=>if s.size<1∨4<s.size then 0 else s.size.toNat | none=>0
theorem AS(m:Model)(p:dj):elems m p≤4:=by
 unfold elems;split
 ·split
  ·omega
  ·omega
 ·omega
def ir(i:Nat)(n:Nat):List cW:=(List.range n).map fun(k:Nat)=>(⟨(i:Int),(k:Int)+1⟩:cW)
def hN(i:Nat)(p:dj):List cW:=if p.over=0 then [(⟨(i:Int),0⟩:cW)] else []
def iY(m:Model):List dj→Nat→List cW
 | [],_=>[]
 | p :: r,i=>hN i p++ir i (elems m p)++iY m r (i+1)
def insts(m:Model):List cW:=iY m m.procs 0
theorem S6(i n:Nat):ir i (n+1)=ir i n++[⟨(i:Int),(n:Int)+1⟩]:=by unfold ir;rw[List.range_succ,List.map_append];rfl
theorem RW{m:Model}{k:Nat}(h:k<m.procs.length):iY m (m.procs.drop k) k=hN k m.procs[k]++ir k (elems m m.procs[k])++iY m (m.procs.drop (k+1)) (k+1):=by
 rw[List.drop_eq_getElem_cons h];rfl
theorem adB(i:Nat)(p:dj):(hN i p).length≤1:=by unfold hN;split<;>simp
theorem RY(m:Model):∀(l:List dj) (i:Nat),(iY m l i).length≤5*l.length
 | [],_=>by simp[iY]
 | p :: r,i=>by
  have:=RY m r (i+1)
  have:=AS m p
  have:=adB i p
  simp only[iY,List.length_append,List.length_cons,ir,List.length_map,List.length_range];omega
theorem sO(m:Model):(insts m).length≤5*m.procs.length:=RY m _ _
structure cW.of(m:Model)(x:cW):Prop where
 aZ:0≤x.proc
 ad:x.proc<m.procs.length
 elem:0≤x.elem∧x.elem≤4
theorem adz{m:Model}{i:Nat}(ad:i<m.procs.length){n:Nat}(aN:n≤4):∀x∈ir i n,x.of m:=fun x aw=>by
 unfold ir at aw;obtain⟨k,hk,rfl⟩:=List.mem_map.1 aw
 have:=List.mem_range.1 hk
 exact⟨by simp,by simpa using ad,by constructor<;>simp<;>omega⟩
theorem adC{m:Model}{i:Nat}(ad:i<m.procs.length){p:dj}:∀x∈hN i p,x.of m:=fun x aw=>by
 unfold hN at aw;split at aw
 ·rw[List.mem_singleton] at aw;subst aw;exact⟨by simp,by simpa using ad,by simp⟩
 ·cases aw
theorem RZ{m:Model}:∀(l:List dj) (i:Nat),i+l.length≤m.procs.length→∀x∈iY m l i,x.of m
 | [],_,_,x,aw=>by simp[iY] at aw
 | p :: r,i,h,x,aw=>by
  simp only[iY,List.mem_append] at aw;simp only[List.length_cons] at h;rcases aw with (aw | aw) | aw
  ·exact adC (by omega) x aw
  ·exact adz (by omega) (AS m p) x aw
  ·exact RZ r (i+1) (by omega) x aw
theorem qw{m:Model}:∀x∈insts m,x.of m:=RZ _ _ (by simp)
def pL(m:Model)(x:cW):Nat:=match nth m.procs x.proc with | some p=>p.cJ.length | none=>0
def refsOf(i:Int)(n:Nat):List Ref:=(List.range n).map fun(k:Nat)=>(⟨i,(k:Int)⟩:Ref)
theorem TC(i:Int)(n:Nat):refsOf i (n+1)=refsOf i n++[⟨i,(n:Int)⟩]:=by unfold refsOf;rw[List.range_succ,List.map_append];rfl
def nh(m:Model):List cW→Nat→List Ref
 | [],_=>[]
 | x :: r,i=>refsOf i (pL m x)++nh m r (i+1)
def refs(m:Model):List Ref:=nh m (insts m) 0
theorem aeJ{m:Model}{l:List cW}{k:Nat}(h:k<l.length):nh m (l.drop k) k=refsOf k (pL m l[k])++nh m (l.drop (k+1)) (k+1):=by
 rw[List.drop_eq_getElem_cons h];rfl
def ku(m:Model)(s:Int×cW×List Ref)(x:cW):Int×cW×List Ref:=((if x≠s.2.1 then s.1+1 else s.1),x,s.2.2++refsOf (if x≠s.2.1 then s.1+1 else s.1) (pL m x))
structure pW where
 dh:Int
 part:Int
 item:Int
 sub:Int
deriving DecidableEq
def q8:pW:=⟨0,0,0,0⟩
abbrev CN(m:Model):List ByteArray:=m.scalars.map (·.name)
abbrev w6(m:Model)(i:Nat):List ByteArray:=(m.vars.take i).map (·.name)
abbrev w5(m:Model)(i:Nat):List ByteArray:=(m.aH.take i).map (·.name)
abbrev u0(m:Model)(i:Nat):List ByteArray:=(m.procs.take i).map (·.name)
abbrev J0(m:Model)(i:Nat):List ByteArray:=(m.props.take i).map (·.name)
abbrev pJ(m:Model)(i:Nat):List ByteArray:=CN m++w6 m i
abbrev lr(m:Model)(i:Nat):List ByteArray:=pJ m m.vars.length++w5 m i
abbrev hy(m:Model)(i:Nat):List ByteArray:=lr m m.aH.length++u0 m i
abbrev pI(m:Model)(i:Nat):List ByteArray:=hy m m.procs.length++J0 m i
def l8(m:Model):Nat→Int:=err 12 (nameAt (·.name) m.vars) (nk m.vars m.scalars)
def lS(m:Model):Nat→Int:=err 4 (nameAt (·.name) m.aH) (mT m.aH m.scalars)
def hV(m:Model)(i:Nat):Int:=if l8 m i≠0 then l8 m i else if nameAt (·.name) m.vars i∈pJ m i then 7 else 0
def iP(m:Model)(i:Nat):Int:=if lS m i≠0 then lS m i else if nameAt (·.name) m.aH i∈lr m i then 7 else 0
def oC(m:Model)(p:dj)(k:Nat):Int:=if nameAt (·.name) p.vars k∈hy m m.procs.length then 7 else 0
def gS(m:Model)(i:Nat):Int×Int :=
 match m.procs[i]? with
 | none=>(0,0)
 | some p=>if 6≤i then (11,0)
  else if (gB p (gq m i)).2.2≠0 then ((gB p (gq m i)).2.2,16*(gB p (gq m i)).1+(gB p (gq m i)).2.1)
  else if p.name∈hy m i then (7,0)
  else if (first p.vars.length (oC m p)).2≠0 then (7,16+(first p.vars.length (oC m p)).1)
  else (0,0)
def jx(m:Model)(p:dj):Int:=if p.over=0 then 1 else size p.over m.scalars
def hd(l:List Int):Int:=l.foldl (· + ·) 0
def oB(c:c4):Int:=1+min (max c.cap 0) 4
def pieces(m:Model):Int×Int×Int :=
 (hd (m.procs.map (jx m)),hd (m.procs.map fun p=>jx m p*p.cJ.length),
  hd (m.vars.map (fun v=>cells v m.scalars))+hd (m.aH.map oB)+hd (m.procs.map fun p=>jx m p*(1+p.vars.length)))
def k6(m:Model)(i:Nat):Int :=
 match m.props[i]? with
 | none=>0
 | some p=>if 8≤i then 11 else if isName p.name=false then 6 else if p.name∈pI m i then 7
  else if (kind p.expr (fI m)).2≠0 then (kind p.expr (fI m)).2 else if (kind p.expr (fI m)).1≠1 then 9 else 0
def data(m:Model):pW :=
 if (scalars m.scalars).2≠0 then ⟨(scalars m.scalars).2,1,(scalars m.scalars).1,0⟩
 else if (first m.vars.length (hV m)).2≠0 then ⟨(first m.vars.length (hV m)).2,2,(first m.vars.length (hV m)).1,0⟩
 else if (first m.aH.length (iP m)).2≠0 then ⟨(first m.aH.length (iP m)).2,3,(first m.aH.length (iP m)).1,0⟩
 else q8
def lv(m:Model):pW :=
 if (first m.procs.length fun i=>(gS m i).1).2≠0 then ⟨(first m.procs.length fun i=>(gS m i).1).2,4,(first m.procs.length fun i=>(gS m i).1).1,(gS m (first m.procs.length fun i=>(gS m i).1).1.toNat).2⟩
 else if 12<(pieces m).1∨64<(pieces m).2.2 then ⟨11,4,m.procs.length,0⟩ else q8
def oa(m:Model):pW:=if (first m.props.length (k6 m)).2≠0 then ⟨(first m.props.length (k6 m)).2,5,(first m.props.length (k6 m)).1,0⟩ else q8
def check(m:Model):pW:=if (data m).dh≠0 then data m else if (lv m).dh≠0 then lv m else oa m
theorem zl{α:Type}{f:α→ByteArray}{l:List α}{i:Nat}(h:i<l.length):nameAt f l i=f l[i]:=by
 unfold nameAt;rw[List.getElem?_eq_getElem h];rfl
theorem acK{p:Nat→Prop}(h:∃j,p j):∃i,p i∧∀k,p k→i≤k:=by
 obtain⟨j,aT⟩:=h
 induction j using Nat.strongRecOn with
 | _ j gf =>
  by_cases aw:∃k,k<j∧p k
  ·obtain⟨k,hk,aO⟩:=aw;exact gf k hk aO
  ·exact⟨j,aT,fun k aO=>Nat.le_of_not_lt fun ck=>aw ⟨k,ck,aO⟩⟩
theorem sh{n:Nat}{e:Nat→Int}(h:(first n e).2=0):∀j,j<n→e j=0:=by
 intro j aT;apply Classical.byContradiction;intro aN;obtain⟨i,ad,h1⟩:=acK (p:=fun j=>j<n∧e j≠0) ⟨j,aT,aN⟩;rw[hG ad.1 (fun k hk=>by
  apply Classical.byContradiction;intro dc;exact absurd (h1 k ⟨by omega,dc⟩) (by omega)) ad.2] at h
 exact ad.2 h
theorem PQ{n:Nat}{e:Nat→Int}(h:(first n e).2≠0):∃i,i<n∧(first n e).1=(i:Int)∧(first n e).2=e i:=by
 unfold first at h ⊢
 split at h
 ·rename_i i ad;rw[List.find?_range_eq_some] at ad;exact⟨i,by simpa using ad.2.1,rfl,rfl⟩
 ·exact absurd rfl h
theorem PC{α:Type}{f:α→ByteArray}{l:List α}{eW:Int}{mo mo':Nat→Int}{k i:Nat}(ad:i<k)(hm:mo i=mo' i):err eW (nameAt f (l.take k)) mo i=err eW (nameAt f l) mo' i:=by
 have aN:∀j,j<k→nameAt f (l.take k) j=nameAt f l j:=fun j aT=>by unfold nameAt;rw[List.getElem?_take_of_lt aT]
 unfold err;rw[aN i ad,hm];have he:(∃j,j<i∧nameAt f (l.take k) j=nameAt f l i)↔(∃j,j<i∧nameAt f l j=nameAt f l i) :=
  ⟨fun⟨j,h1,U⟩=>⟨j,h1,by rw[←aN j (by omega)];exact U⟩,fun⟨j,h1,U⟩=>⟨j,h1,by rw[aN j (by omega)];exact U⟩⟩
 by_cases aw:∃j,j<i∧nameAt f l j=nameAt f l i
 ·rw[if_pos (he.2 aw),if_pos aw]
 ·rw[if_neg (fun h=>aw (he.1 h)),if_neg aw]
theorem agl{m:Model}{i:Nat}(ad:i<m.vars.length)(bU:∀j,j<i→l8 m j=0):(vars (m.vars.take (i+1)) m.scalars 12).2=l8 m i:=by
 unfold vars;have aQ:(m.vars.take (i+1)).length=i+1:=by simp;omega
 rw[aQ,show(max 12 0:Int)=12 from rfl,PO (e':=l8 m) (fun j aT=>(PC (mo':=nk m.vars m.scalars) aT (by unfold nk;rw[List.getElem?_take_of_lt aT]):_=l8 m j))];by_cases aj:l8 m i=0
 ·rw[mV fun j aT=>by
   by_cases gm:j=i
   ·subst gm;exact aj
   ·exact bU j (by omega),aj]
 ·rw[hG (by omega) bU aj]
theorem W7{m:Model}{i:Nat}(ad:i<m.aH.length)(bU:∀j,j<i→lS m j=0):(aH (m.aH.take (i+1)) m.scalars).2=lS m i:=by
 unfold aH;have aQ:(m.aH.take (i+1)).length=i+1:=by simp;omega
 rw[aQ,PO (e':=lS m) (fun j aT=>(PC (mo':=mT m.aH m.scalars) aT (by unfold mT;rw[List.getElem?_take_of_lt aT]):_=lS m j))];by_cases aj:lS m i=0
 ·rw[mV fun j aT=>by
   by_cases gm:j=i
   ·subst gm;exact aj
   ·exact bU j (by omega),aj]
 ·rw[hG (by omega) bU aj]
theorem agk(m:Model):vars m.vars m.scalars 12=first m.vars.length (l8 m):=rfl
theorem W5(m:Model):aH m.aH m.scalars=first m.aH.length (lS m):=rfl
theorem Gw{m:Model}{i:Nat}(h:hV m i=0):l8 m i=0:=by
 apply Classical.byContradiction;intro aN;unfold hV at h;rw[if_pos aN] at h;exact aN h
theorem Ep{m:Model}{i:Nat}(h:iP m i=0):lS m i=0:=by
 apply Classical.byContradiction;intro aN;unfold iP at h;rw[if_pos aN] at h;exact aN h
theorem PD{m:Model}{i:Nat}(h:hV m i=0):i<12:=by
 have h:=Gw h;unfold l8 err at h;split at h
 ·cases h
 ·omega
theorem XL{m:Model}{i:Nat}(h:iP m i=0):i<4:=by
 have h:=Ep h;unfold lS err at h;split at h
 ·cases h
 ·omega
theorem EG{m:Model}{i:Nat}(ad:i<m.procs.length)(h:(gS m i).1=0):i<6:=by
 unfold gS at h;rw[List.getElem?_eq_getElem ad] at h;simp only at h;split at h
 ·cases h
 ·omega
theorem XV{m:Model}{i:Nat}(ad:i<m.props.length)(h:k6 m i=0):i<8:=by
 unfold k6 at h;rw[List.getElem?_eq_getElem ad] at h;simp only at h;split at h
 ·cases h
 ·omega
theorem T4{m:Model}(h:(scalars m.scalars).2=0):m.scalars.length≤2:=by
 unfold scalars at h
 have:=sh h
 apply Classical.byContradiction;intro aN;have U:=this 2 (by omega);unfold err at U;rw[if_pos (by omega)] at U;cases U
theorem size_le(k:Int)(s:List Scalar):0≤size k s∧size k s≤4:=by
 unfold size;split
 ·split<;>omega
 ·omega
theorem r6(v:Var)(s:List Scalar):0≤cells v s∧cells v s≤4:=by
 have:=size_le v.over s
 unfold cells;split<;>omega
theorem CR(m:Model)(p:dj):0≤jx m p∧jx m p≤4:=by
 have:=size_le p.over m.scalars
 unfold jx;split<;>omega
theorem Hs(c:c4):1≤oB c∧oB c≤5:=by unfold oB;omega
theorem afP(l:List Int)(x:Int):hd (l++[x])=hd l+x:=by unfold hd;simp
theorem Dj{α:Type}(f:α→Int)(l:List α){k:Nat}(h:k<l.length):hd ((l.take (k+1)).map f)=hd ((l.take k).map f)+f l[k]:=by
 rw[List.take_succ_eq_append_getElem h,List.map_append,List.map_cons,List.map_nil,afP]
theorem Di{α:Type}(f:α→Int)(B:Int)(kj:0≤B):∀(l:List α),(∀x∈l,0≤f x∧f x≤B)→0≤hd (l.map f)∧hd (l.map f)≤B*l.length:=by
 have key:∀(l:List α) (a:Int),(∀x∈l,0≤f x∧f x≤B)→a≤(l.map f).foldl (· + ·) a∧(l.map f).foldl (· + ·) a≤a+B*l.length:=by
  intro l
  induction l with
  | nil=>intro a _;simp
  | cons x r gf =>
   intro a h;have aw:=h x (by simp);obtain⟨h1,U⟩:=gf (a+f x) fun y cB=>h y (by simp[cB]);simp only[List.map_cons,List.foldl_cons,List.length_cons];rw[Int.natCast_succ,Int.mul_add];omega
 intro l h;obtain⟨h1,U⟩:=key l 0 h;unfold hd;omega
end o
namespace o
theorem O6{m:Model}(h:(scalars m.scalars).2≠0):data m=⟨(scalars m.scalars).2,1,(scalars m.scalars).1,0⟩:=by unfold data;rw[if_pos h]
theorem EB{m:Model}(ay:(scalars m.scalars).2=0){i:Nat}(ad:i<m.vars.length)(bU:∀j,j<i→hV m j=0)(h:hV m i≠0):data m=⟨hV m i,2,i,0⟩:=by
 unfold data;rw[if_neg (by simpa using ay),hG ad bU h,if_pos h]
theorem Ez{m:Model}(ay:(scalars m.scalars).2=0)(aU:∀j,j<m.vars.length→hV m j=0){i:Nat}(ad:i<m.aH.length)(bU:∀j,j<i→iP m j=0)(h:iP m i≠0):data m=⟨iP m i,3,i,0⟩:=by
 unfold data;rw[if_neg (by simpa using ay),mV aU,if_neg (by simp),hG ad bU h,if_pos h]
theorem O4{m:Model}(ay:(scalars m.scalars).2=0)(aU:∀j,j<m.vars.length→hV m j=0)(av:∀j,j<m.aH.length→iP m j=0):data m=q8:=by
 unfold data;rw[if_neg (by simpa using ay),mV aU,if_neg (by simp),mV av,if_neg (by simp)]
theorem O5{m:Model}(h:(data m).dh=0):(scalars m.scalars).2=0∧(∀j,j<m.vars.length→hV m j=0)∧(∀j,j<m.aH.length→iP m j=0):=by
 unfold data at h;by_cases h1:(scalars m.scalars).2=0
 ·rw[if_neg (by simpa using h1)] at h;by_cases U:(first m.vars.length (hV m)).2=0
  ·rw[if_neg (by simpa using U)] at h;by_cases ai:(first m.aH.length (iP m)).2=0
   ·exact⟨h1,sh U,sh ai⟩
   ·rw[if_pos ai] at h;exact absurd h ai
  ·rw[if_pos U] at h;exact absurd h U
 ·rw[if_pos h1] at h;exact absurd h h1
theorem EA{m:Model}(h:(data m).dh=0):m.scalars.length≤2∧m.vars.length≤12∧m.aH.length≤4:=by
 obtain⟨h1,U,ai⟩:=O5 h;refine⟨T4 h1,?_,?_⟩
 ·apply Classical.byContradiction;intro aN
  have:=PD (U 12 (by omega))
  omega
 ·apply Classical.byContradiction;intro aN
  have:=XL (ai 4 (by omega))
  omega
theorem CU{m:Model}{i:Nat}(ad:i<m.procs.length)(bU:∀j,j<i→(gS m j).1=0)(h:(gS m i).1≠0):lv m=⟨(gS m i).1,4,i,(gS m i).2⟩:=by
 unfold lv;rw[hG (e:=fun i=>(gS m i).1) ad bU h];simp only;rw[if_pos h];simp
theorem Kj{m:Model}(bU:∀j,j<m.procs.length→(gS m j).1=0):lv m=if 12<(pieces m).1∨64<(pieces m).2.2 then ⟨11,4,m.procs.length,0⟩ else q8:=by
 unfold lv;rw[mV (e:=fun i=>(gS m i).1) bU,if_neg (by simp)]
theorem Tf{m:Model}(h:(lv m).dh=0):(∀j,j<m.procs.length→(gS m j).1=0)∧(pieces m).1≤12∧(pieces m).2.2≤64:=by
 by_cases h1:(first m.procs.length fun i=>(gS m i).1).2=0
 ·have bU:=sh h1;rw[Kj bU] at h;refine⟨bU,?_⟩;by_cases U:12<(pieces m).1∨64<(pieces m).2.2
  ·rw[if_pos U] at h;cases h
  ·omega
 ·unfold lv at h;rw[if_pos h1] at h;exact absurd h h1
theorem Tg{m:Model}{i:Nat}(ad:i<m.props.length)(bU:∀j,j<i→k6 m j=0)(h:k6 m i≠0):oa m=⟨k6 m i,5,i,0⟩:=by
 unfold oa;rw[hG ad bU h,if_pos h]
theorem Kk{m:Model}(bU:∀j,j<m.props.length→k6 m j=0):oa m=q8:=by
 unfold oa;rw[mV bU,if_neg (by simp)]
theorem adX{m:Model}(h:(oa m).dh=0):∀j,j<m.props.length→k6 m j=0:=by
 by_cases h1:(first m.props.length (k6 m)).2=0
 ·exact sh h1
 ·unfold oa at h;rw[if_pos h1] at h;exact absurd h h1
theorem zH{α:Type}(f:α→ByteArray)(l:List α){k:Nat}(h:k<l.length):(l.take (k+1)).map f=(l.take k).map f++[f l[k]]:=by
 rw[List.take_succ_eq_append_getElem h,List.map_append];rfl
end o
namespace o
theorem HQ{m:Model}{i:Nat}(ad:i<m.procs.length):gS m i=if 6≤i then (11,0)
  else if (gB m.procs[i] (gq m i)).2.2≠0 then ((gB m.procs[i] (gq m i)).2.2,16*(gB m.procs[i] (gq m i)).1+(gB m.procs[i] (gq m i)).2.1)
  else if m.procs[i].name∈hy m i then (7,0)
  else if (first m.procs[i].vars.length (oC m m.procs[i])).2≠0 then (7,16+(first m.procs[i].vars.length (oC m m.procs[i])).1)
  else (0,0):=by
 unfold gS;rw[List.getElem?_eq_getElem ad]
theorem Pz{m:Model}{i:Nat}(ad:i<m.props.length):k6 m i=if 8≤i then 11 else if isName m.props[i].name=false then 6 else if m.props[i].name∈pI m i then 7
  else if (kind m.props[i].expr (fI m)).2≠0 then (kind m.props[i].expr (fI m)).2 else if (kind m.props[i].expr (fI m)).1≠1 then 9 else 0:=by
 unfold k6;rw[List.getElem?_eq_getElem ad]
theorem Yq(n:Nat)(e:Nat→Int):0≤(first n e).1∧(first n e).1≤n:=by
 unfold first
 split
 ·rename_i i ad;rw[List.find?_range_eq_some] at ad
  have:=ad.2.1
  simp at this;constructor<;>simp<;>omega
 ·simp
theorem SF(s:Scope):∀(l:List Var) (i:Nat),0≤(n0 s l i).1∧(n0 s l i).1≤i+l.length
 | [],i=>by first | (simp[n0];done) | (simp[n0];omega)
 | v :: r,i=>by
  have:=SF s r (i+1)
  unfold n0;split
  ·simp;omega
  ·split
   ·simp;omega
   ·simp only[List.length_cons];omega
theorem adO(p:dj)(s:Scope):0≤(jE p s).1∧(jE p s).1≤p.vars.length:=by
 unfold jE;split
 ·exact Yq _ _
 ·have:=SF s p.vars 0;omega
theorem Ot(s:Scope):∀(l:List Act) (i:Nat) (t:Bool),0≤(kd s l i t).1∧(kd s l i t).1≤2+i+l.length
 | [],i,t=>by first | (simp[kd];done) | (simp[kd];omega)
 | a :: r,i,t=>by
  have:=Ot s r (i+1) (t||gi a)
  unfold kd;split
  ·simp;omega
  ·split
   ·simp;omega
   ·simp only[List.length_cons];omega
theorem Xg(c:dD)(cz:Int)(s:Scope):0≤(ig c cz s).1∧(ig c cz s).1≤2+c.b6.length:=by
 unfold ig;split
 ·simp;omega
 ·split
  ·simp;omega
  ·have:=Ot s c.b6 0 false;omega
theorem OW(own:Scope)(cz:Int)(all:List dD)(B:Nat):∀(l:List dD) (i:Nat),(∀c∈l,c.b6.length≤B)→0≤(jP own cz all l i).1∧(jP own cz all l i).1≤2+i+l.length∧0≤(jP own cz all l i).2.1∧(jP own cz all l i).2.1≤2+B
 | [],i,_=>by first | (simp[jP];done) | (simp[jP];omega)
 | c :: r,i,h=>by
  have h1:=OW own cz all B r (i+1) fun x aw=>h x (by simp[aw]);have U:=Xg c cz own;have ai:=h c (by simp);unfold jP;split
  ·simp only[List.length_cons];omega
  ·split
   ·simp only[List.length_cons];omega
   ·simp only[List.length_cons];omega
theorem Te(p:dj)(s:Scope)(B:Nat)(h:∀c∈p.cJ,c.b6.length≤B):0≤(gB p s).1∧(gB p s).1≤2+p.cJ.length∧0≤(gB p s).2.1∧(gB p s).2.1≤2+B+p.vars.length:=by
 unfold gB;split
 ·simp;omega
 ·split
  ·have:=adO p s
   simp only;omega
  ·have:=OW (inner p s) p.cz p.cJ B p.cJ 0 h
   omega
theorem Ki{p:dj}{s:Scope}(h:(gB p s).2.2=0):p.vars.length≤4∧p.cJ.length≤12∧whole p s=0∧(jE p s).2=0∧(jP (inner p s) p.cz p.cJ p.cJ 0).2.2=0:=by
 unfold gB at h;by_cases h1:whole p s=0
 ·rw[if_neg (by simpa using h1)] at h;by_cases U:(jE p s).2=0
  ·rw[if_neg (by simpa using U)] at h;refine⟨?_,?_,h1,U,h⟩
   ·have ai:(vars p.vars s.scalars 4).2=0:=by
     apply Classical.byContradiction;intro aN;unfold jE at U;rw[if_pos aN] at U;exact aN U
    apply Classical.byContradiction;intro aN;have aL:=sh ai 4 (by omega);unfold err at aL;rw[if_pos (by decide)] at aL;cases aL
   ·apply Classical.byContradiction;intro aN;unfold whole at h1;split at h1
    ·cases h1
    ·split at h1
     ·cases h1
     ·split at h1
      ·cases h1
      ·rw[if_pos (by omega)] at h1;cases h1
  ·rw[if_pos U] at h;exact absurd h U
 ·rw[if_pos h1] at h;exact absurd h h1
theorem EH{m:Model}{i:Nat}(ad:i<m.procs.length)(h:(gS m i).1=0):i<6∧(gB m.procs[i] (gq m i)).2.2=0∧¬m.procs[i].name∈hy m i∧(first m.procs[i].vars.length (oC m m.procs[i])).2=0:=by
 rw[HQ ad] at h;split at h
 ·cases h
 ·split at h
  ·rename_i h1 U;exact absurd h U
  ·split at h
   ·cases h
   ·split at h
    ·cases h
    ·rename_i h1 U ai aL;exact⟨by omega,by simpa using U,ai,by simpa using aL⟩
end o
end
section
namespace o
open Go
structure di where
 aZ:Int
 ad:Int
 kind:Int
structure Cell where
 sort:Int
 tq:Int
 place:Int
 aZ:Int
 ad:Int
 kind:Int
structure tA where
 vars:List Int
 aH:List Int
 insts:List Int
 cells:Int
 aZ:List Int
 ad:List Int
def kindOf(k:Int):Int:=if k=0 then 0 else k+1
def eK(ja aZ ad:Int)(s:List Scalar):di:=if ja=0 then ⟨aZ,ad,0⟩ else ⟨0,size ja s,ja+1⟩
theorem Av(v:Var)(s:List Scalar):eK v.scalar v.aZ v.ad s=⟨(bounds v s).1,(bounds v s).2,kindOf v.scalar⟩:=by
 unfold eK bounds kindOf;by_cases h:v.scalar=0
 ·rw[if_pos h,if_pos h,if_pos h]
 ·rw[if_neg h,if_neg h,if_neg h]
def xo(s:List Scalar)(v:Var):List di:=List.replicate (cells v s).toNat (eK v.scalar v.aZ v.ad s)
def jl(s:List Scalar)(c:c4):di:=eK c.scalar (min c.aZ 0) (max c.ad 0) s
def k3(s:List Scalar)(c:c4):List di:=⟨0,c.cap,0⟩ :: List.replicate c.cap.toNat (jl s c)
def rG(s:List Scalar)(p:dj):List di:=⟨0,p.cz - 1,0⟩ :: p.vars.map fun v=>eK v.scalar v.aZ v.ad s
def jY(m:Model)(x:cW):List di:=match nth m.procs x.proc with | some p=>rG m.scalars p | none=>[]
def eR(sort tq:Int):List di→Nat→List Cell
 | [],_=>[]
 | b :: r,k=>⟨sort,tq,k,b.aZ,b.ad,b.kind⟩ :: eR sort tq r (k+1)
def cellsOf(sort:Int):List (List di)→Nat→List Cell
 | [],_=>[]
 | l :: r,i=>eR sort i l 0++cellsOf sort r (i+1)
def total(ls:List (List di)):Nat:=(ls.map List.length).sum
def gD(n:Nat):List (List di)→List Int
 | []=>[]
 | l :: r=>(n:Int) :: gD (n+l.length) r
def cF(m:Model):List (List di):=m.vars.map (xo m.scalars)
def c7(m:Model):List (List di):=m.aH.map (k3 m.scalars)
def eN(m:Model):List (List di):=(insts m).map (jY m)
def b1(m:Model):List Cell:=cellsOf 1 (cF m) 0++cellsOf 2 (c7 m) 0++cellsOf 3 (eN m) 0
def y0(V C eA:List Int)(cs:List Cell):tA:=⟨V,C,eA,cs.length,cs.map (·.aZ),cs.map (·.ad)⟩
def layout(m:Model):tA:=y0 (gD 0 (cF m)) (gD (total (cF m)) (c7 m)) (gD (total (cF m)+total (c7 m)) (eN m)) (b1 m)
def J7:tA:=⟨[],[],[],0,[],[]⟩
def lay(m:Model):tA:=if (check m).dh=0 then layout m else J7
theorem rA(s w:Int):∀(l:List di) (k:Nat),(eR s w l k).length=l.length
 | [],_=>rfl
 | _ :: r,k=>by simp[eR,rA s w r]
theorem JQ(s w:Int)(b:di):∀(l:List di) (k:Nat),eR s w (l++[b]) k=eR s w l k++[⟨s,w,(k+l.length:Nat),b.aZ,b.ad,b.kind⟩]
 | [],k=>by simp[eR]
 | x :: r,k=>by
  simp only[List.cons_append,eR,JQ s w b r,List.length_cons];rw[show k+1+r.length=k+(r.length+1) from by omega]
theorem aca{s w:Int}{l:List di}{k:Nat}(h:k<l.length):eR s w (l.take (k+1)) 0=eR s w (l.take k) 0++[⟨s,w,k,l[k].aZ,l[k].ad,l[k].kind⟩]:=by
 rw[List.take_succ_eq_append_getElem h,JQ];simp[List.length_take,Nat.min_eq_left (Nat.le_of_lt h)]
theorem jk(s:Int):∀(ls:List (List di)) (i:Nat),(cellsOf s ls i).length=total ls
 | [],_=>rfl
 | l :: r,i=>by simp[cellsOf,rA,jk s r,total]
theorem vJ(s:Int)(x:List di):∀(ls:List (List di)) (i:Nat),cellsOf s (ls++[x]) i=cellsOf s ls i++eR s (i+ls.length:Nat) x 0
 | [],i=>by simp[cellsOf]
 | l :: r,i=>by
  simp only[List.cons_append,cellsOf,vJ s x r,List.length_cons,List.append_assoc];rw[show i+1+r.length=i+(r.length+1) from by omega]
theorem af0(ls:List (List di))(x:List di):total (ls++[x])=total ls+x.length:=by simp[total]
theorem Gk(x:List di):∀(ls:List (List di)) (n:Nat),gD n (ls++[x])=gD n ls++[((n+total ls:Nat):Int)]
 | [],n=>by simp[gD,total]
 | l :: r,n=>by
  simp only[List.cons_append,gD,Gk x r,total,List.map_cons,List.sum_cons];rw[show n+l.length+(r.map List.length).sum=n+(l.length+(r.map List.length).sum) from by omega]
theorem rM(n:Nat):∀(ls:List (List di)),(gD n ls).length=ls.length:=by
 intro ls
 induction ls generalizing n with
 | nil=>rfl
 | cons l r gf=>simp[gD,gf]
theorem BZ(m:Model):(b1 m).length=total (cF m)+total (c7 m)+total (eN m):=by simp[b1,jk,Nat.add_assoc]
def hn(s:Int):List Cell→Nat→List Int
 | [],_=>[]
 | x :: r,i=>(if x.place=0∧x.sort=s then [(i:Int)] else [])++hn s r (i+1)
theorem AY(s:Int):∀(a b:List Cell) (i:Nat),hn s (a++b) i=hn s a i++hn s b (i+a.length)
 | [],b,i=>by simp[hn]
 | x :: r,b,i=>by
  simp only[List.cons_append,hn,AY s r b,List.append_assoc,List.length_cons];rw[show i+1+r.length=i+(r.length+1) from by omega]
theorem PS(s gN w:Int):∀(l:List di) (k i:Nat),0<k→hn s (eR gN w l k) i=[]
 | [],_,_,_=>rfl
 | b :: r,k,i,h=>by
  simp only[eR,hn];rw[if_neg (by simp;omega),PS s gN w r (k+1) (i+1) (by omega)];rfl
theorem EN(s:Int):∀(ls:List (List di)) (i n:Nat),(∀l∈ls,l≠[])→hn s (cellsOf s ls i) n=gD n ls
 | [],_,_,_=>rfl
 | [] :: r,i,n,h=>absurd rfl (h [] (by simp))
 | (b :: l) :: r,i,n,h=>by
  simp only[cellsOf,eR,List.cons_append,hn,AY];rw[if_pos (by simp),PS s s i l 1 (n+1) (by omega),EN s r (i+1) _ (fun l aQ=>h l (by simp[aQ]))];simp only[List.nil_append,gD,rA,List.singleton_append,List.length_cons];rw[show n+1+l.length=n+(l.length+1) from by omega]
theorem vT(s gN:Int)(ay:s≠gN):∀(ls:List (List di)) (i n:Nat),hn s (cellsOf gN ls i) n=[]
 | [],_,_=>rfl
 | l :: r,i,n=>by
  have key:∀(l:List di) (k n:Nat),hn s (eR gN i l k) n=[]:=by
   intro l
   induction l with
   | nil=>intro k n;rfl
   | cons b r gf =>
    intro k n;simp only[eR,hn];rw[if_neg (by simp;exact fun _=>Ne.symm ay),gf];rfl
  simp only[cellsOf,AY,key,vT s gN ay r,List.append_nil]
end o
end