/- The types. -/
import Derived.Test.YtjbokkoiicoahaaGreatDoorAtab
import Derived.Test.YtjbokkoiicoahaaGreatDoorAvg
namespace Go.Av
open Go Go.Proofs
set_option maxRecDepth 100000
set_option maxHeartbeats 4000000
set_option linter.unusedVariables false
set_option linter.unusedSimpArgs false
def eInt (x:Int):List PV:=[.int .i64 x]
theorem er_Int (x:Int):eraseL (eInt x)=eInt x:=rfl
theorem erR_Int (xs:List Int):eraseR (xs.map eInt)=xs.map eInt:=eraseR_map _ _ er_Int xs
theorem frR_Int (xs:List Int):freshR (xs.map eInt)=True:=fresh_map _ (fun x=>by simp only[eInt,freshL,fresh,and_self]) xs
def eU8 (x:Int):List PV:=[.int .u8 x]
def eBool (x:Bool):List PV:=[.bool x]
theorem frR_Bool (xs:List Bool):freshR (xs.map eBool)=True:=fresh_map _ (fun x=>by simp only[eBool,freshL,fresh,and_self]) xs
def eString (x:ByteArray):List PV:=[.str x]
theorem er_String (x:ByteArray):eraseL (eString x)=eString x:=rfl
theorem erR_String (xs:List ByteArray):eraseR (xs.map eString)=xs.map eString:=eraseR_map _ _ er_String xs
structure GMail where
 Uid:Int
 Flags:Int
 Text:ByteArray
def eMail (x:GMail):List PV:=[.int .i64 x.Uid,.int .i64 x.Flags,.str x.Text]
def eoMail (x:GMail):List PV:=[.int .i64 x.Uid,.int .i64 x.Flags,.str x.Text]
theorem er_Mail (x:GMail):eraseL (eoMail x)=eMail x:=by
 simp only[eoMail,eMail,eraseL,erase]
theorem erR_Mail (xs:List GMail):eraseR (xs.map eoMail)=xs.map eMail:=eraseR_map _ _ er_Mail xs
theorem frR_Mail (xs:List GMail):freshR (xs.map eoMail)=True:=fresh_map _ (fun x=>by simp only[eoMail,freshL,fresh,and_self]) xs
structure GBox where
 Valid:Int
 User:ByteArray
 Name:ByteArray
 Next:Int
 Mails:List GMail
def eBox (x:GBox):List PV:=[.int .i64 x.Valid,.str x.User,.str x.Name,.int .i64 x.Next,.sl 3 (x.Mails.map eMail)]
def eoBox (x:GBox):List PV:=[.int .i64 x.Valid,.str x.User,.str x.Name,.int .i64 x.Next,.ow 3 (x.Mails.map eoMail)]
theorem er_Box (x:GBox):eraseL (eoBox x)=eBox x:=by
 simp only[eoBox,eBox,eraseL,erase,erR_Mail]
theorem erR_Box (xs:List GBox):eraseR (xs.map eoBox)=xs.map eBox:=eraseR_map _ _ er_Box xs
theorem frR_Box (xs:List GBox):freshR (xs.map eoBox)=True:=fresh_map _ (fun x=>by simp only[eoBox,freshL,fresh,and_self,frR_Mail]) xs
structure GWrite where
 At:Int
 Text:ByteArray
def eWrite (x:GWrite):List PV:=[.int .i64 x.At,.str x.Text]
def eoWrite (x:GWrite):List PV:=[.int .i64 x.At,.str x.Text]
theorem er_Write (x:GWrite):eraseL (eoWrite x)=eWrite x:=by
 simp only[eoWrite,eWrite,eraseL,erase]
theorem erR_Write (xs:List GWrite):eraseR (xs.map eoWrite)=xs.map eWrite:=eraseR_map _ _ er_Write xs
structure GDisk where
 Sectors:List ByteArray
 Cache:List GWrite
def eDisk (x:GDisk):List PV:=[.sl 1 (x.Sectors.map eString),.sl 2 (x.Cache.map eWrite)]
def eoDisk (x:GDisk):List PV:=[.ow 1 (x.Sectors.map eString),.ow 2 (x.Cache.map eoWrite)]
structure GFrame where
 Gen:Int
 Seq:Int
 Body:ByteArray
def eFrame (x:GFrame):List PV:=[.int .i64 x.Gen,.int .i64 x.Seq,.str x.Body]
structure GRec where
 Kind:Int
 Valid:Int
 Uid:Int
 Next:Int
 Flags:Int
 User:ByteArray
 Name:ByteArray
 Text:ByteArray
def eRec (x:GRec):List PV:=[.int .i64 x.Kind,.int .i64 x.Valid,.int .i64 x.Uid,.int .i64 x.Next,.int .i64 x.Flags,.str x.User,.str x.Name,.str x.Text]
def eoRec (x:GRec):List PV:=[.int .i64 x.Kind,.int .i64 x.Valid,.int .i64 x.Uid,.int .i64 x.Next,.int .i64 x.Flags,.str x.User,.str x.Name,.str x.Text]
structure GItem where
 Seq:Int
 Rec:GRec
def eItem (x:GItem):List PV:=[.int .i64 x.Seq,.int .i64 x.Rec.Kind,.int .i64 x.Rec.Valid,.int .i64 x.Rec.Uid,.int .i64 x.Rec.Next,.int .i64 x.Rec.Flags,.str x.Rec.User,.str x.Rec.Name,.str x.Rec.Text]
def eoItem (x:GItem):List PV:=[.int .i64 x.Seq,.int .i64 x.Rec.Kind,.int .i64 x.Rec.Valid,.int .i64 x.Rec.Uid,.int .i64 x.Rec.Next,.int .i64 x.Rec.Flags,.str x.Rec.User,.str x.Rec.Name,.str x.Rec.Text]
theorem er_Item (x:GItem):eraseL (eoItem x)=eItem x:=by
 simp only[eoItem,eItem,eraseL,erase]
theorem erR_Item (xs:List GItem):eraseR (xs.map eoItem)=xs.map eItem:=eraseR_map _ _ er_Item xs
structure GSeg where
 No:Int
 Gen:Int
 End:Int
 Items:List GItem
def eSeg (x:GSeg):List PV:=[.int .i64 x.No,.int .i64 x.Gen,.int .i64 x.End,.sl 9 (x.Items.map eItem)]
def eoSeg (x:GSeg):List PV:=[.int .i64 x.No,.int .i64 x.Gen,.int .i64 x.End,.ow 9 (x.Items.map eoItem)]
theorem er_Seg (x:GSeg):eraseL (eoSeg x)=eSeg x:=by
 simp only[eoSeg,eSeg,eraseL,erase,erR_Item]
theorem erR_Seg (xs:List GSeg):eraseR (xs.map eoSeg)=xs.map eSeg:=eraseR_map _ _ er_Seg xs
structure GLog where
 Disk:GDisk
 Segs:Int
 Used:List GSeg
 NextGen:Int
 NextSeq:Int
 Stamp:Int
 NextValid:Int
def eLog (x:GLog):List PV:=[.sl 1 (x.Disk.Sectors.map eString),.sl 2 (x.Disk.Cache.map eWrite),.int .i64 x.Segs,.sl 4 (x.Used.map eSeg),.int .i64 x.NextGen,.int .i64 x.NextSeq,.int .i64 x.Stamp,.int .i64 x.NextValid]
def eoLog (x:GLog):List PV:=[.ow 1 (x.Disk.Sectors.map eString),.ow 2 (x.Disk.Cache.map eoWrite),.int .i64 x.Segs,.ow 4 (x.Used.map eoSeg),.int .i64 x.NextGen,.int .i64 x.NextSeq,.int .i64 x.Stamp,.int .i64 x.NextValid]
structure GState where
 Boxes:List GBox
def eoState (x:GState):List PV:=[.ow 5 (x.Boxes.map eoBox)]
structure GStore where
 Log:GLog
 Freed:List Int
def eStore (x:GStore):List PV:=[.sl 1 (x.Log.Disk.Sectors.map eString),.sl 2 (x.Log.Disk.Cache.map eWrite),.int .i64 x.Log.Segs,.sl 4 (x.Log.Used.map eSeg),.int .i64 x.Log.NextGen,.int .i64 x.Log.NextSeq,.int .i64 x.Log.Stamp,.int .i64 x.Log.NextValid,.sl 1 (x.Freed.map eInt)]
def eoStore (x:GStore):List PV:=[.ow 1 (x.Log.Disk.Sectors.map eString),.ow 2 (x.Log.Disk.Cache.map eoWrite),.int .i64 x.Log.Segs,.ow 4 (x.Log.Used.map eoSeg),.int .i64 x.Log.NextGen,.int .i64 x.Log.NextSeq,.int .i64 x.Log.Stamp,.int .i64 x.Log.NextValid,.ow 1 (x.Freed.map eInt)]
def zsIntS (xs:List Int):List Nat:=[xs.length]
def zsString (x:ByteArray):List Nat:=[x.size]
def zsStringS (xs:List ByteArray):List Nat:=xs.length::xs.flatMap zsString
def zsMail (x:GMail):List Nat:=[x.Text.size]++([])
def zsMailS (xs:List GMail):List Nat:=xs.length::xs.flatMap zsMail
def zsBox (x:GBox):List Nat:=[x.User.size]++([x.Name.size]++(zsMailS x.Mails++([])))
def zsBoxS (xs:List GBox):List Nat:=xs.length::xs.flatMap zsBox
def zsWrite (x:GWrite):List Nat:=[x.Text.size]++([])
def zsWriteS (xs:List GWrite):List Nat:=xs.length::xs.flatMap zsWrite
def zsDisk (x:GDisk):List Nat:=zsStringS x.Sectors++(zsWriteS x.Cache++([]))
def zsRec (x:GRec):List Nat:=[x.User.size]++([x.Name.size]++([x.Text.size]++([])))
def zsItem (x:GItem):List Nat:=zsRec x.Rec++([])
def zsItemS (xs:List GItem):List Nat:=xs.length::xs.flatMap zsItem
def zsSeg (x:GSeg):List Nat:=zsItemS x.Items++([])
def zsSegS (xs:List GSeg):List Nat:=xs.length::xs.flatMap zsSeg
def zsLog (x:GLog):List Nat:=zsDisk x.Disk++(zsSegS x.Used++([]))
def zsStore (x:GStore):List Nat:=zsLog x.Log++(zsIntS x.Freed++([]))
end Go.Av
