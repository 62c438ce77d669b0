import Derived.Test.YtjjfphalcibjfaaGreatDoorTh10
namespace Scr
end Scr
