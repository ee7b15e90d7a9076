/- Part 1. -/
import Derived.Shelf.Sort.Plain
import Derived.Shelf.Slices.Turned
import Derived.Shelf.Slices.Clone
import Derived.Shelf.Slices.Cells
import Derived.Shelf.Slices.In.SortNone
import Derived.Shelf.SlicesG.Turned
import Derived.Shelf.SlicesE.Clone
import Derived.Test.YtjgmjohiehbgaaaGreatProg
import Derived.Shelf.SlIter.Nil
import Derived.Shelf.SortM.Plain
import Derived.Shelf.SortM.SortNone
import Derived.Shelf.SlSortCmp.WholeK
import Derived.Shelf.SlMaps.Clone
namespace Go.Proofs.YtjgmjohiehbgaaaGreat
open Go.RowKit Go.Proofs.Tryz
set_option maxHeartbeats 20000000
set_option maxRecDepth 100000
set_option linter.all false
section
open Go.Shelf Go.Proofs
def zH{α:Type}{a:Option α}{b c:α}(h:a=some b)(e:b=c:=by kernel_rfl):a=some c:=h.trans (congrArg some e)
def aP9:Go.Shelf.Ren:=⟨λ|107=>49|108=>121|n=>n,λ|28=>25|3=>3|4=>4|0=>0|n=>n,λ|n=>n⟩
def aP1:Go.Proofs.Lays.n107 prog aP9:=⟨by kernel_rfl,zH func49,zH func121,underlying0,Tryz.isAgg0,Tryz.sizeOf0,Tryz.zeroValue0,underlying3,Tryz.isAgg3,Tryz.sizeOf3,Tryz.zeroValue3,underlying4,Tryz.isAgg4,Tryz.sizeOf4,Tryz.zeroValue4,underlying25,Tryz.isAgg25,Tryz.sizeOf25,Tryz.zeroValue25⟩
open Go.Lib in
theorem aQ0 (b off n c:Nat) (zs:List Int) (x:Int) (w:World) (hz:n<=zs.length) (hbig:n<=9223372036854775807) (hc:∀j,j<zs.length->w.cell? ⟨b,off+j,none⟩=some (.int .i64 (zs.getD j 0))) :
 Calls prog 49 #[.slice (some ⟨b,off,none⟩) n c,.int .i64 x] w λe w'=>e=.returned (.bool ((zs.take n).contains x))/\w' = w:=Any.slices_Contains_int aP1 b off n c zs x w hz hbig hc
open Go.Lib in
theorem aQ1 (a:Option Addr) (c:Nat) (x:Int) (w:World) :
 Calls prog 49 #[.slice a 0 c,.int .i64 x] w λe w'=>e=.returned (.bool false)/\w' = w:=Any.slices_Contains_int_empty aP1 a c x w
def aQ2:Go.Shelf.Ren:=⟨λ|15=>360|n=>n,λ|22=>25|3=>3|4=>4|n=>n,λ|n=>n⟩
def aN9:Go.Proofs.Lays2.n15 prog aQ2:=⟨by kernel_rfl,zH func360,underlying3,Tryz.isAgg3,Tryz.sizeOf3,Tryz.zeroValue3,underlying4,Tryz.isAgg4,Tryz.sizeOf4,Tryz.zeroValue4,underlying25,Tryz.isAgg25,Tryz.sizeOf25,Tryz.zeroValue25,by kernel_rfl⟩
open Go.RowKit Go.Lib in
theorem aQ3 (b off n c:Nat) (zs:List Int) (w:World) (hz:n<=zs.length) (hbig:n*8<=140737488355328) (hc:∀j,j<zs.length->w.cell? ⟨b,off+j,none⟩=some (.int .i64 (zs.getD j 0))) :
 Calls prog 360 #[.slice (some ⟨b,off,none⟩) n c] w λe w'=>∃v',e=.returned v'/\w'.ownsRow w.heap.size 3 1 v' n ((zs.take n).map (Value.int .i64))/\v'≠.slice none 0 0/\Below w.heap.size w w':=Any.slices_Clone_int aN9 b off n c zs w hz hbig hc
open Go.RowKit Go.Lib in
theorem aQ4 (n c:Nat) (w:World) :
 Calls prog 360 #[.slice none n c] w λe w'=>e=.returned (.slice none 0 0)/\w' = w:=Any.slices_Clone_int_nil aN9 n c w
open Go.RowKit Go.Lib in
theorem aQ5 (a:Addr) (c:Nat) (w:World) :
 Calls prog 360 #[.slice (some a) 0 c] w λe w'=>∃v',e=.returned v'/\w'.ownsRow w.heap.size 3 1 v' 0 []/\v'≠.slice none 0 0/\Below w.heap.size w w':=Any.slices_Clone_int_zero aN9 a c w
def al6:Go.Shelf.Ren:=⟨λ|35=>400|n=>n,λ|22=>29|23=>83|3=>3|4=>4|0=>0|n=>n,λ|n=>n⟩
def ac3:Go.Proofs.SlLaysE0.n35 prog al6:=⟨by kernel_rfl,⟨Tryz.f400.name,by decide,func400.trans (congrArg some (by kernel_rfl))⟩,underlying0,Tryz.isAgg0,Tryz.sizeOf0,Tryz.zeroValue0,underlying3,Tryz.isAgg3,Tryz.sizeOf3,Tryz.zeroValue3,underlying4,Tryz.isAgg4,Tryz.sizeOf4,Tryz.zeroValue4,underlying29,Tryz.isAgg29,Tryz.sizeOf29,Tryz.zeroValue29⟩
def ac4:Go.Shelf.Ren:=⟨λ|7=>40|10=>105|n=>n,λ|23=>99|26=>9|3=>45|28=>97|0=>0|27=>96|33=>180|4=>4|n=>n,λ|n=>n⟩
def ac5:Go.Proofs.SlLaysZ.n7 prog ac4:=⟨by kernel_rfl,⟨Tryz.f40.name,by decide,func40.trans (congrArg some (by kernel_rfl))⟩,⟨Tryz.f105.name,by decide,func105.trans (congrArg some (by kernel_rfl))⟩,underlying0,Tryz.isAgg0,Tryz.sizeOf0,Tryz.zeroValue0,underlying4,Tryz.isAgg4,Tryz.sizeOf4,Tryz.zeroValue4,underlying99,Tryz.isAgg99,Tryz.sizeOf99,Tryz.zeroValue99,underlying9,Tryz.isAgg9,Tryz.sizeOf9,Tryz.zeroValue9,underlying96,Tryz.isAgg96,Tryz.sizeOf96,Tryz.zeroValue96,underlying97,Tryz.isAgg97,Tryz.sizeOf97,Tryz.zeroValue97,underlying180,Tryz.isAgg180,Tryz.sizeOf180,Tryz.zeroValue180⟩
def ac6:Go.Shelf.Ren:=⟨λ|6=>39|8=>103|9=>104|11=>167|13=>169|12=>168|23=>226|24=>227|14=>217|15=>218|16=>219|17=>220|18=>221|19=>222|20=>223|21=>224|22=>225|25=>266|26=>267|27=>268|28=>269|29=>270|30=>271|31=>301|n=>n,λ|26=>9|28=>97|24=>39|0=>0|3=>3|37=>169|48=>279|50=>81|4=>4|40=>337|39=>336|45=>342|5=>5|9=>9|51=>380|55=>384|57=>411|58=>412|33=>180|n=>n,λ|n=>n⟩
def al7:Go.Proofs.SlLaysZ.n6 prog ac6:=⟨by kernel_rfl,⟨Tryz.f39.name,by decide,func39.trans (congrArg some (by kernel_rfl))⟩,⟨Tryz.f103.name,by decide,func103.trans (congrArg some (by kernel_rfl))⟩,⟨Tryz.f167.name,by decide,func167.trans (congrArg some (by kernel_rfl))⟩,underlying0,Tryz.isAgg0,Tryz.sizeOf0,Tryz.zeroValue0,underlying39,Tryz.isAgg39,Tryz.sizeOf39,Tryz.zeroValue39,underlying9,Tryz.isAgg9,Tryz.sizeOf9,Tryz.zeroValue9,underlying97,Tryz.isAgg97,Tryz.sizeOf97,Tryz.zeroValue97,by kernel_rfl⟩
def al8:Go.Shelf.Ren:=⟨λ|6=>104|8=>169|9=>168|19=>226|20=>227|21=>217|22=>218|23=>219|24=>220|25=>221|26=>222|27=>223|28=>224|29=>225|36=>266|31=>267|32=>268|37=>269|38=>270|39=>271|41=>301|n=>n,λ|27=>39|29=>9|3=>3|32=>169|26=>39|0=>0|44=>279|46=>81|4=>4|36=>337|35=>336|41=>342|5=>5|9=>9|53=>380|57=>384|63=>411|64=>412|n=>n,λ|n=>n⟩
def ac7:Go.Proofs.SlLaysM.n6 prog al8:=⟨by kernel_rfl,⟨Tryz.f104.name,by decide,func104.trans (congrArg some (by kernel_rfl))⟩,zH func169,⟨Tryz.f168.name,by decide,func168.trans (congrArg some (by kernel_rfl))⟩,zH func226,zH func227,⟨Tryz.f217.name,by decide,func217.trans (congrArg some (by kernel_rfl))⟩,⟨Tryz.f218.name,by decide,func218.trans (congrArg some (by kernel_rfl))⟩,⟨Tryz.f219.name,by decide,func219.trans (congrArg some (by kernel_rfl))⟩,⟨Tryz.f220.name,by decide,func220.trans (congrArg some (by kernel_rfl))⟩,⟨Tryz.f221.name,by decide,func221.trans (congrArg some (by kernel_rfl))⟩,⟨Tryz.f222.name,by decide,func222.trans (congrArg some (by kernel_rfl))⟩,⟨Tryz.f223.name,by decide,func223.trans (congrArg some (by kernel_rfl))⟩,⟨Tryz.f224.name,by decide,func224.trans (congrArg some (by kernel_rfl))⟩,⟨Tryz.f225.name,by decide,func225.trans (congrArg some (by kernel_rfl))⟩,zH func267,zH func268,⟨Tryz.f266.name,by decide,func266.trans (congrArg some (by kernel_rfl))⟩,⟨Tryz.f269.name,by decide,func269.trans (congrArg some (by kernel_rfl))⟩,⟨Tryz.f270.name,by decide,func270.trans (congrArg some (by kernel_rfl))⟩,⟨Tryz.f271.name,by decide,func271.trans (congrArg some (by kernel_rfl))⟩,⟨Tryz.f301.name,by decide,func301.trans (congrArg some (by kernel_rfl))⟩,underlying0,Tryz.isAgg0,Tryz.sizeOf0,Tryz.zeroValue0,underlying3,Tryz.isAgg3,Tryz.sizeOf3,Tryz.zeroValue3,underlying4,Tryz.isAgg4,Tryz.sizeOf4,Tryz.zeroValue4,underlying5,Tryz.isAgg5,Tryz.sizeOf5,Tryz.zeroValue5,underlying9,Tryz.isAgg9,Tryz.sizeOf9,Tryz.zeroValue9,underlying39,Tryz.isAgg39,Tryz.sizeOf39,Tryz.zeroValue39,underlying39,Tryz.isAgg39,Tryz.sizeOf39,Tryz.zeroValue39,underlying9,Tryz.isAgg9,Tryz.sizeOf9,Tryz.zeroValue9,underlying169,Tryz.isAgg169,Tryz.sizeOf169,Tryz.zeroValue169,underlying336,Tryz.isAgg336,Tryz.sizeOf336,Tryz.zeroValue336,underlying337,Tryz.isAgg337,Tryz.sizeOf337,Tryz.zeroValue337,underlying342,Tryz.isAgg342,Tryz.sizeOf342,Tryz.zeroValue342,underlying279,Tryz.isAgg279,Tryz.sizeOf279,Tryz.zeroValue279,underlying81,Tryz.isAgg81,Tryz.sizeOf81,Tryz.zeroValue81,underlying380,Tryz.isAgg380,Tryz.sizeOf380,Tryz.zeroValue380,underlying384,Tryz.isAgg384,Tryz.sizeOf384,Tryz.zeroValue384,underlying411,Tryz.isAgg411,Tryz.sizeOf411,Tryz.zeroValue411,underlying412,Tryz.isAgg412,Tryz.sizeOf412,Tryz.zeroValue412⟩
def al9:Go.Shelf.Ren:=⟨λ|6=>198|15=>169|14=>250|28=>226|29=>227|20=>286|21=>287|22=>288|23=>289|24=>290|25=>291|26=>292|27=>293|46=>305|47=>267|48=>268|49=>306|50=>307|57=>313|n=>n,λ|22=>29|24=>83|25=>246|3=>3|39=>169|0=>0|53=>279|55=>81|4=>4|46=>337|45=>336|50=>342|5=>5|9=>9|66=>380|70=>384|76=>411|77=>412|n=>n,λ|n=>n⟩
def ac8:Go.Proofs.SlLaysF0.n6 prog al9:=⟨by kernel_rfl,⟨Tryz.f198.name,by decide,func198.trans (congrArg some (by kernel_rfl))⟩,⟨Tryz.f250.name,by decide,func250.trans (congrArg some (by kernel_rfl))⟩,zH func169,⟨Tryz.f286.name,by decide,func286.trans (congrArg some (by kernel_rfl))⟩,⟨Tryz.f287.name,by decide,func287.trans (congrArg some (by kernel_rfl))⟩,⟨Tryz.f288.name,by decide,func288.trans (congrArg some (by kernel_rfl))⟩,⟨Tryz.f289.name,by decide,func289.trans (congrArg some (by kernel_rfl))⟩,⟨Tryz.f290.name,by decide,func290.trans (congrArg some (by kernel_rfl))⟩,⟨Tryz.f291.name,by decide,func291.trans (congrArg some (by kernel_rfl))⟩,⟨Tryz.f292.name,by decide,func292.trans (congrArg some (by kernel_rfl))⟩,⟨Tryz.f293.name,by decide,func293.trans (congrArg some (by kernel_rfl))⟩,zH func226,zH func227,⟨Tryz.f305.name,by decide,func305.trans (congrArg some (by kernel_rfl))⟩,zH func267,zH func268,⟨Tryz.f306.name,by decide,func306.trans (congrArg some (by kernel_rfl))⟩,⟨Tryz.f307.name,by decide,func307.trans (congrArg some (by kernel_rfl))⟩,⟨Tryz.f313.name,by decide,func313.trans (congrArg some (by kernel_rfl))⟩,underlying0,Tryz.isAgg0,Tryz.sizeOf0,Tryz.zeroValue0,underlying3,Tryz.isAgg3,Tryz.sizeOf3,Tryz.zeroValue3,underlying4,Tryz.isAgg4,Tryz.sizeOf4,Tryz.zeroValue4,underlying5,Tryz.isAgg5,Tryz.sizeOf5,Tryz.zeroValue5,underlying9,Tryz.isAgg9,Tryz.sizeOf9,Tryz.zeroValue9,underlying29,Tryz.isAgg29,Tryz.sizeOf29,Tryz.zeroValue29,underlying246,Tryz.isAgg246,Tryz.sizeOf246,Tryz.zeroValue246,underlying169,Tryz.isAgg169,Tryz.sizeOf169,Tryz.zeroValue169,underlying336,Tryz.isAgg336,Tryz.sizeOf336,Tryz.zeroValue336,underlying337,Tryz.isAgg337,Tryz.sizeOf337,Tryz.zeroValue337,underlying342,Tryz.isAgg342,Tryz.sizeOf342,Tryz.zeroValue342,underlying279,Tryz.isAgg279,Tryz.sizeOf279,Tryz.zeroValue279,underlying81,Tryz.isAgg81,Tryz.sizeOf81,Tryz.zeroValue81,underlying380,Tryz.isAgg380,Tryz.sizeOf380,Tryz.zeroValue380,underlying384,Tryz.isAgg384,Tryz.sizeOf384,Tryz.zeroValue384,underlying411,Tryz.isAgg411,Tryz.sizeOf411,Tryz.zeroValue411,underlying412,Tryz.isAgg412,Tryz.sizeOf412,Tryz.zeroValue412⟩
def aQ6:Go.Shelf.Ren:=⟨λ|5=>56|7=>124|n=>n,λ|23=>99|25=>9|3=>45|4=>4|20=>20|n=>n,λ|n=>n⟩
def aQ7:Go.Proofs.SlLaysW.n5 prog aQ6:=⟨by kernel_rfl,⟨Tryz.f56.name,by decide,func56.trans (congrArg some (by kernel_rfl))⟩,zH func124,underlying4,Tryz.isAgg4,Tryz.sizeOf4,Tryz.zeroValue4,underlying20,Tryz.isAgg20,Tryz.sizeOf20,Tryz.zeroValue20,underlying99,Tryz.isAgg99,Tryz.sizeOf99,Tryz.zeroValue99⟩
end
end Go.Proofs.YtjgmjohiehbgaaaGreat
